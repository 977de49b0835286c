/-
  No cell of these rows narrows 'for every input' (looked for: loops, veiled, ifaces, maps, wideKeys, modest, calm, conditions, laid).
  DERIVED. THE GIVEN ROWS OF THIS SEAT. 11 by the template 'for every input the law returns true; each argument reads behind the call as it read before'; 0 by the template 'total and deterministic' (their statements: YtlmnbgblmackkaaTotals.lean).
  GIVEN WITH THE SEED: the statements are not yours to turn. If you find one false, say at which input.
  Laid BY PROGRAM, IN A SANDBOX (cutbox-rows.mjs): the forced cells as the released guide's own fill.sh prints them over the translation 0c5426e286f539e1… (all of the seat's roots in one cut). By AI agents, Wed Nov 11 2026. No macro, syntax, notation, axiom, sorry.
-/
import Derived.Test.YtlmnbgblmackkaaChecked
import GoSem.Claim
import GoSem.ClaimJoined
import GoSem.ClaimMapViews
import Derived.JoinedTies
import Derived.KernelRfl
namespace Go.Proofs.Ytlmnbgblmackkaa
/- THE CELL 'sum', in the pinned program and in every row, IS THE sha256 OF THE DUMP (.gsa) THAT YtlmnbgblmackkaaProg.lean LOADS. Nothing in Lean hashes anything: it is a label: what it is worth is what the hold of that sum in a sandbox is worth. -/
noncomputable def Try.pinned : Pinned := { name := "ytlmnbgblmackkaa", sum := "0c5426e286f539e16ed8cb0dfe57098231f4d6c4d4266c0585339752a7b5570e", checked := Try.checked }
namespace Rows
def none {H : Type} : Left H := { results := [], args := [] }

/-- 'laws.FnExactSwitchLog': WHATEVER THE INPUT: true; the input reads as it did. -/
def fnExactSwitchLogSpec : ChangeSpec := { name := "fnExactSwitchLog", fn := fun _ => fun
  | [d1, d2] => { results := [.lit (.bool true)], args := [d1, d2] }
  | _ => none }
def fnExactSwitchLogRow : OpenClaim := { program := "ytlmnbgblmackkaa", sum := "0c5426e286f539e16ed8cb0dfe57098231f4d6c4d4266c0585339752a7b5570e", func := "loop.example/g00327/laws.FnExactSwitchLog", spec := "fnExactSwitchLog", apart := false }
def FnExactSwitchLogSaid : Prop := fnExactSwitchLogRow.holds Try.pinned (OpenSpec.ofChange fnExactSwitchLogSpec)

/-- ITS FALSE NEIGHBOUR: 'it returns false'. Refute it at one input. -/
def fnExactSwitchLogWrong : ChangeSpec := { name := "fnExactSwitchLog", fn := fun _ => fun
  | [d1, d2] => { results := [.lit (.bool false)], args := [d1, d2] }
  | _ => none }
def FnExactSwitchLogWrongFalsely : Prop := fnExactSwitchLogRow.holds Try.pinned (OpenSpec.ofChange fnExactSwitchLogWrong)

/-- 'laws.FnLogsTold': WHATEVER THE INPUT: true; the input reads as it did. -/
def fnLogsToldSpec : ChangeSpec := { name := "fnLogsTold", fn := fun _ => fun
  | [d] => { results := [.lit (.bool true)], args := [d] }
  | _ => none }
def fnLogsToldRow : OpenClaim := { program := "ytlmnbgblmackkaa", sum := "0c5426e286f539e16ed8cb0dfe57098231f4d6c4d4266c0585339752a7b5570e", func := "loop.example/g00327/laws.FnLogsTold", spec := "fnLogsTold", inPlace := ["internal/abi.NoEscape", "internal/bytealg.MakeNoZero"], apart := false }
def FnLogsToldSaid : Prop := fnLogsToldRow.holds Try.pinned (OpenSpec.ofChange fnLogsToldSpec)

/-- ITS FALSE NEIGHBOUR: 'it returns false'. Refute it at one input. -/
def fnLogsToldWrong : ChangeSpec := { name := "fnLogsTold", fn := fun _ => fun
  | [d] => { results := [.lit (.bool false)], args := [d] }
  | _ => none }
def FnLogsToldWrongFalsely : Prop := fnLogsToldRow.holds Try.pinned (OpenSpec.ofChange fnLogsToldWrong)

/-- 'laws.FnExactLogNew': WHATEVER THE INPUT: true; the input reads as it did. -/
def fnExactLogNewSpec : ChangeSpec := { name := "fnExactLogNew", fn := fun _ => fun
  | [] => { results := [.lit (.bool true)], args := [] }
  | _ => none }
def fnExactLogNewRow : OpenClaim := { program := "ytlmnbgblmackkaa", sum := "0c5426e286f539e16ed8cb0dfe57098231f4d6c4d4266c0585339752a7b5570e", func := "loop.example/g00327/laws.FnExactLogNew", spec := "fnExactLogNew", inPlace := ["internal/abi.NoEscape", "internal/bytealg.MakeNoZero"], apart := false }
def FnExactLogNewSaid : Prop := fnExactLogNewRow.holds Try.pinned (OpenSpec.ofChange fnExactLogNewSpec)

/-- ITS FALSE NEIGHBOUR: 'it returns false'. Refute it at one input. -/
def fnExactLogNewWrong : ChangeSpec := { name := "fnExactLogNew", fn := fun _ => fun
  | [] => { results := [.lit (.bool false)], args := [] }
  | _ => none }
def FnExactLogNewWrongFalsely : Prop := fnExactLogNewRow.holds Try.pinned (OpenSpec.ofChange fnExactLogNewWrong)

/-- 'laws.FnExactReadArea': WHATEVER THE INPUT: true; the input reads as it did. -/
def fnExactReadAreaSpec : ChangeSpec := { name := "fnExactReadArea", fn := fun _ => fun
  | [d1, d2] => { results := [.lit (.bool true)], args := [d1, d2] }
  | _ => none }
def fnExactReadAreaRow : OpenClaim := { program := "ytlmnbgblmackkaa", sum := "0c5426e286f539e16ed8cb0dfe57098231f4d6c4d4266c0585339752a7b5570e", func := "loop.example/g00327/laws.FnExactReadArea", spec := "fnExactReadArea", apart := false }
def FnExactReadAreaSaid : Prop := fnExactReadAreaRow.holds Try.pinned (OpenSpec.ofChange fnExactReadAreaSpec)

/-- ITS FALSE NEIGHBOUR: 'it returns false'. Refute it at one input. -/
def fnExactReadAreaWrong : ChangeSpec := { name := "fnExactReadArea", fn := fun _ => fun
  | [d1, d2] => { results := [.lit (.bool false)], args := [d1, d2] }
  | _ => none }
def FnExactReadAreaWrongFalsely : Prop := fnExactReadAreaRow.holds Try.pinned (OpenSpec.ofChange fnExactReadAreaWrong)

/-- 'laws.FnExactLogOk': WHATEVER THE INPUT: true; the input reads as it did. -/
def fnExactLogOkSpec : ChangeSpec := { name := "fnExactLogOk", fn := fun _ => fun
  | [d] => { results := [.lit (.bool true)], args := [d] }
  | _ => none }
def fnExactLogOkRow : OpenClaim := { program := "ytlmnbgblmackkaa", sum := "0c5426e286f539e16ed8cb0dfe57098231f4d6c4d4266c0585339752a7b5570e", func := "loop.example/g00327/laws.FnExactLogOk", spec := "fnExactLogOk", apart := false }
def FnExactLogOkSaid : Prop := fnExactLogOkRow.holds Try.pinned (OpenSpec.ofChange fnExactLogOkSpec)

/-- ITS FALSE NEIGHBOUR: 'it returns false'. Refute it at one input. -/
def fnExactLogOkWrong : ChangeSpec := { name := "fnExactLogOk", fn := fun _ => fun
  | [d] => { results := [.lit (.bool false)], args := [d] }
  | _ => none }
def FnExactLogOkWrongFalsely : Prop := fnExactLogOkRow.holds Try.pinned (OpenSpec.ofChange fnExactLogOkWrong)

/-- 'laws.FnExactLogTexts': WHATEVER THE INPUT: true; the input reads as it did. -/
def fnExactLogTextsSpec : ChangeSpec := { name := "fnExactLogTexts", fn := fun _ => fun
  | [d] => { results := [.lit (.bool true)], args := [d] }
  | _ => none }
def fnExactLogTextsRow : OpenClaim := { program := "ytlmnbgblmackkaa", sum := "0c5426e286f539e16ed8cb0dfe57098231f4d6c4d4266c0585339752a7b5570e", func := "loop.example/g00327/laws.FnExactLogTexts", spec := "fnExactLogTexts", apart := false }
def FnExactLogTextsSaid : Prop := fnExactLogTextsRow.holds Try.pinned (OpenSpec.ofChange fnExactLogTextsSpec)

/-- ITS FALSE NEIGHBOUR: 'it returns false'. Refute it at one input. -/
def fnExactLogTextsWrong : ChangeSpec := { name := "fnExactLogTexts", fn := fun _ => fun
  | [d] => { results := [.lit (.bool false)], args := [d] }
  | _ => none }
def FnExactLogTextsWrongFalsely : Prop := fnExactLogTextsRow.holds Try.pinned (OpenSpec.ofChange fnExactLogTextsWrong)

/-- 'laws.FnDisksTold': WHATEVER THE INPUT: true; the input reads as it did. -/
def fnDisksToldSpec : ChangeSpec := { name := "fnDisksTold", fn := fun _ => fun
  | [d] => { results := [.lit (.bool true)], args := [d] }
  | _ => none }
def fnDisksToldRow : OpenClaim := { program := "ytlmnbgblmackkaa", sum := "0c5426e286f539e16ed8cb0dfe57098231f4d6c4d4266c0585339752a7b5570e", func := "loop.example/g00327/laws.FnDisksTold", spec := "fnDisksTold", inPlace := ["internal/abi.NoEscape", "internal/bytealg.MakeNoZero"], apart := false }
def FnDisksToldSaid : Prop := fnDisksToldRow.holds Try.pinned (OpenSpec.ofChange fnDisksToldSpec)

/-- ITS FALSE NEIGHBOUR: 'it returns false'. Refute it at one input. -/
def fnDisksToldWrong : ChangeSpec := { name := "fnDisksTold", fn := fun _ => fun
  | [d] => { results := [.lit (.bool false)], args := [d] }
  | _ => none }
def FnDisksToldWrongFalsely : Prop := fnDisksToldRow.holds Try.pinned (OpenSpec.ofChange fnDisksToldWrong)

/-- 'laws.FnLogs': WHATEVER THE INPUT: true; the input reads as it did. -/
def fnLogsSpec : ChangeSpec := { name := "fnLogs", fn := fun _ => fun
  | [d] => { results := [.lit (.bool true)], args := [d] }
  | _ => none }
def fnLogsRow : OpenClaim := { program := "ytlmnbgblmackkaa", sum := "0c5426e286f539e16ed8cb0dfe57098231f4d6c4d4266c0585339752a7b5570e", func := "loop.example/g00327/laws.FnLogs", spec := "fnLogs", apart := false }
def FnLogsSaid : Prop := fnLogsRow.holds Try.pinned (OpenSpec.ofChange fnLogsSpec)

/-- ITS FALSE NEIGHBOUR: 'it returns false'. Refute it at one input. -/
def fnLogsWrong : ChangeSpec := { name := "fnLogs", fn := fun _ => fun
  | [d] => { results := [.lit (.bool false)], args := [d] }
  | _ => none }
def FnLogsWrongFalsely : Prop := fnLogsRow.holds Try.pinned (OpenSpec.ofChange fnLogsWrong)

/-- 'laws.FnExactPutRecord': WHATEVER THE INPUT: true; the input reads as it did. -/
def fnExactPutRecordSpec : ChangeSpec := { name := "fnExactPutRecord", fn := fun _ => fun
  | [d1, d2, d3] => { results := [.lit (.bool true)], args := [d1, d2, d3] }
  | _ => none }
def fnExactPutRecordRow : OpenClaim := { program := "ytlmnbgblmackkaa", sum := "0c5426e286f539e16ed8cb0dfe57098231f4d6c4d4266c0585339752a7b5570e", func := "loop.example/g00327/laws.FnExactPutRecord", spec := "fnExactPutRecord", apart := false }
def FnExactPutRecordSaid : Prop := fnExactPutRecordRow.holds Try.pinned (OpenSpec.ofChange fnExactPutRecordSpec)

/-- ITS FALSE NEIGHBOUR: 'it returns false'. Refute it at one input. -/
def fnExactPutRecordWrong : ChangeSpec := { name := "fnExactPutRecord", fn := fun _ => fun
  | [d1, d2, d3] => { results := [.lit (.bool false)], args := [d1, d2, d3] }
  | _ => none }
def FnExactPutRecordWrongFalsely : Prop := fnExactPutRecordRow.holds Try.pinned (OpenSpec.ofChange fnExactPutRecordWrong)

/-- 'laws.FnExactAppendLog': WHATEVER THE INPUT: true; the input reads as it did. -/
def fnExactAppendLogSpec : ChangeSpec := { name := "fnExactAppendLog", fn := fun _ => fun
  | [d1, d2] => { results := [.lit (.bool true)], args := [d1, d2] }
  | _ => none }
def fnExactAppendLogRow : OpenClaim := { program := "ytlmnbgblmackkaa", sum := "0c5426e286f539e16ed8cb0dfe57098231f4d6c4d4266c0585339752a7b5570e", func := "loop.example/g00327/laws.FnExactAppendLog", spec := "fnExactAppendLog", apart := false }
def FnExactAppendLogSaid : Prop := fnExactAppendLogRow.holds Try.pinned (OpenSpec.ofChange fnExactAppendLogSpec)

/-- ITS FALSE NEIGHBOUR: 'it returns false'. Refute it at one input. -/
def fnExactAppendLogWrong : ChangeSpec := { name := "fnExactAppendLog", fn := fun _ => fun
  | [d1, d2] => { results := [.lit (.bool false)], args := [d1, d2] }
  | _ => none }
def FnExactAppendLogWrongFalsely : Prop := fnExactAppendLogRow.holds Try.pinned (OpenSpec.ofChange fnExactAppendLogWrong)

/-- 'laws.FnSwitches': WHATEVER THE INPUT: true; the input reads as it did. -/
def fnSwitchesSpec : ChangeSpec := { name := "fnSwitches", fn := fun _ => fun
  | [d] => { results := [.lit (.bool true)], args := [d] }
  | _ => none }
def fnSwitchesRow : OpenClaim := { program := "ytlmnbgblmackkaa", sum := "0c5426e286f539e16ed8cb0dfe57098231f4d6c4d4266c0585339752a7b5570e", func := "loop.example/g00327/laws.FnSwitches", spec := "fnSwitches", apart := false }
def FnSwitchesSaid : Prop := fnSwitchesRow.holds Try.pinned (OpenSpec.ofChange fnSwitchesSpec)

/-- ITS FALSE NEIGHBOUR: 'it returns false'. Refute it at one input. -/
def fnSwitchesWrong : ChangeSpec := { name := "fnSwitches", fn := fun _ => fun
  | [d] => { results := [.lit (.bool false)], args := [d] }
  | _ => none }
def FnSwitchesWrongFalsely : Prop := fnSwitchesRow.holds Try.pinned (OpenSpec.ofChange fnSwitchesWrong)

/- THE SECOND FORM. 'bulk': how many values and letters a reading holds, each counted each time it is reached (what is shared counts as often as it is met; a slice's spare places count too). A statement '..UptoSaid' is the law's where the arguments, and the package variables that the reading takes, are together of bulk at most 1048576: NARROWER than '..Said'. Prove '..Said' where nothing that the law and all that it calls make is longer than what came in: it says more and counts as full. Else prove '..UptoSaid'. A law counts once. -/
mutual
def uptoBulk {H : Type} : DataW H → Nat
  | .lit (.string bytes) => bytes.length + 1
  | .lit _ => 1
  | .nil => 1
  | .ptr d => uptoBulk d + 1
  | .slice elems spare => uptoBulkAll elems + uptoBulkAll spare + 1
  | .agg parts => uptoBulkAll parts + 1
  | .iface _ d => uptoBulk d + 1
  | .map entries => uptoBulkEntries entries + 1
  | .held _ => 1
def uptoBulkAll {H : Type} : List (DataW H) → Nat
  | [] => 0
  | d :: r => uptoBulk d + uptoBulkAll r
def uptoBulkEntries {H : Type} : List (Lit × DataW H) → Nat
  | [] => 0
  | x :: r => uptoBulkEntry x + uptoBulkEntries r
def uptoBulkEntry {H : Type} : Lit × DataW H → Nat
  | (.string bytes, d) => bytes.length + uptoBulk d + 1
  | (_, d) => uptoBulk d + 1
 end
def uptoSmall : (H : Type) → List (DataW H) → Bool := fun _ ds => decide (uptoBulkAll ds ≤ 1048576)
def OpenSpec.upto (s : _root_.Go.ChangeSpec) : _root_.Go.OpenSpec := { _root_.Go.OpenSpec.ofChange s with cond := some uptoSmall }

/-- 'laws.FnExactSwitchLog', WHERE WHAT IT READS IS OF BULK AT MOST 1048576: true; the input reads as it did. -/
def fnExactSwitchLogUptoRow : OpenClaim := { program := "ytlmnbgblmackkaa", sum := "0c5426e286f539e16ed8cb0dfe57098231f4d6c4d4266c0585339752a7b5570e", func := "loop.example/g00327/laws.FnExactSwitchLog", spec := "fnExactSwitchLog", apart := false, narrowed := true }
def FnExactSwitchLogUptoSaid : Prop := fnExactSwitchLogUptoRow.holds Try.pinned (OpenSpec.upto fnExactSwitchLogSpec)

/-- 'laws.FnLogsTold', WHERE WHAT IT READS IS OF BULK AT MOST 1048576: true; the input reads as it did. -/
def fnLogsToldUptoRow : OpenClaim := { program := "ytlmnbgblmackkaa", sum := "0c5426e286f539e16ed8cb0dfe57098231f4d6c4d4266c0585339752a7b5570e", func := "loop.example/g00327/laws.FnLogsTold", spec := "fnLogsTold", inPlace := ["internal/abi.NoEscape", "internal/bytealg.MakeNoZero"], apart := false, narrowed := true }
def FnLogsToldUptoSaid : Prop := fnLogsToldUptoRow.holds Try.pinned (OpenSpec.upto fnLogsToldSpec)

/-- 'laws.FnExactLogNew', WHERE WHAT IT READS IS OF BULK AT MOST 1048576: true; the input reads as it did. -/
def fnExactLogNewUptoRow : OpenClaim := { program := "ytlmnbgblmackkaa", sum := "0c5426e286f539e16ed8cb0dfe57098231f4d6c4d4266c0585339752a7b5570e", func := "loop.example/g00327/laws.FnExactLogNew", spec := "fnExactLogNew", inPlace := ["internal/abi.NoEscape", "internal/bytealg.MakeNoZero"], apart := false, narrowed := true }
def FnExactLogNewUptoSaid : Prop := fnExactLogNewUptoRow.holds Try.pinned (OpenSpec.upto fnExactLogNewSpec)

/-- 'laws.FnExactReadArea', WHERE WHAT IT READS IS OF BULK AT MOST 1048576: true; the input reads as it did. -/
def fnExactReadAreaUptoRow : OpenClaim := { program := "ytlmnbgblmackkaa", sum := "0c5426e286f539e16ed8cb0dfe57098231f4d6c4d4266c0585339752a7b5570e", func := "loop.example/g00327/laws.FnExactReadArea", spec := "fnExactReadArea", apart := false, narrowed := true }
def FnExactReadAreaUptoSaid : Prop := fnExactReadAreaUptoRow.holds Try.pinned (OpenSpec.upto fnExactReadAreaSpec)

/-- 'laws.FnExactLogOk', WHERE WHAT IT READS IS OF BULK AT MOST 1048576: true; the input reads as it did. -/
def fnExactLogOkUptoRow : OpenClaim := { program := "ytlmnbgblmackkaa", sum := "0c5426e286f539e16ed8cb0dfe57098231f4d6c4d4266c0585339752a7b5570e", func := "loop.example/g00327/laws.FnExactLogOk", spec := "fnExactLogOk", apart := false, narrowed := true }
def FnExactLogOkUptoSaid : Prop := fnExactLogOkUptoRow.holds Try.pinned (OpenSpec.upto fnExactLogOkSpec)

/-- 'laws.FnExactLogTexts', WHERE WHAT IT READS IS OF BULK AT MOST 1048576: true; the input reads as it did. -/
def fnExactLogTextsUptoRow : OpenClaim := { program := "ytlmnbgblmackkaa", sum := "0c5426e286f539e16ed8cb0dfe57098231f4d6c4d4266c0585339752a7b5570e", func := "loop.example/g00327/laws.FnExactLogTexts", spec := "fnExactLogTexts", apart := false, narrowed := true }
def FnExactLogTextsUptoSaid : Prop := fnExactLogTextsUptoRow.holds Try.pinned (OpenSpec.upto fnExactLogTextsSpec)

/-- 'laws.FnDisksTold', WHERE WHAT IT READS IS OF BULK AT MOST 1048576: true; the input reads as it did. -/
def fnDisksToldUptoRow : OpenClaim := { program := "ytlmnbgblmackkaa", sum := "0c5426e286f539e16ed8cb0dfe57098231f4d6c4d4266c0585339752a7b5570e", func := "loop.example/g00327/laws.FnDisksTold", spec := "fnDisksTold", inPlace := ["internal/abi.NoEscape", "internal/bytealg.MakeNoZero"], apart := false, narrowed := true }
def FnDisksToldUptoSaid : Prop := fnDisksToldUptoRow.holds Try.pinned (OpenSpec.upto fnDisksToldSpec)

/-- 'laws.FnLogs', WHERE WHAT IT READS IS OF BULK AT MOST 1048576: true; the input reads as it did. -/
def fnLogsUptoRow : OpenClaim := { program := "ytlmnbgblmackkaa", sum := "0c5426e286f539e16ed8cb0dfe57098231f4d6c4d4266c0585339752a7b5570e", func := "loop.example/g00327/laws.FnLogs", spec := "fnLogs", apart := false, narrowed := true }
def FnLogsUptoSaid : Prop := fnLogsUptoRow.holds Try.pinned (OpenSpec.upto fnLogsSpec)

/-- 'laws.FnExactPutRecord', WHERE WHAT IT READS IS OF BULK AT MOST 1048576: true; the input reads as it did. -/
def fnExactPutRecordUptoRow : OpenClaim := { program := "ytlmnbgblmackkaa", sum := "0c5426e286f539e16ed8cb0dfe57098231f4d6c4d4266c0585339752a7b5570e", func := "loop.example/g00327/laws.FnExactPutRecord", spec := "fnExactPutRecord", apart := false, narrowed := true }
def FnExactPutRecordUptoSaid : Prop := fnExactPutRecordUptoRow.holds Try.pinned (OpenSpec.upto fnExactPutRecordSpec)

/-- 'laws.FnExactAppendLog', WHERE WHAT IT READS IS OF BULK AT MOST 1048576: true; the input reads as it did. -/
def fnExactAppendLogUptoRow : OpenClaim := { program := "ytlmnbgblmackkaa", sum := "0c5426e286f539e16ed8cb0dfe57098231f4d6c4d4266c0585339752a7b5570e", func := "loop.example/g00327/laws.FnExactAppendLog", spec := "fnExactAppendLog", apart := false, narrowed := true }
def FnExactAppendLogUptoSaid : Prop := fnExactAppendLogUptoRow.holds Try.pinned (OpenSpec.upto fnExactAppendLogSpec)

/-- 'laws.FnSwitches', WHERE WHAT IT READS IS OF BULK AT MOST 1048576: true; the input reads as it did. -/
def fnSwitchesUptoRow : OpenClaim := { program := "ytlmnbgblmackkaa", sum := "0c5426e286f539e16ed8cb0dfe57098231f4d6c4d4266c0585339752a7b5570e", func := "loop.example/g00327/laws.FnSwitches", spec := "fnSwitches", apart := false, narrowed := true }
def FnSwitchesUptoSaid : Prop := fnSwitchesUptoRow.holds Try.pinned (OpenSpec.upto fnSwitchesSpec)

end Rows
end Go.Proofs.Ytlmnbgblmackkaa
