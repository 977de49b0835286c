/-
  No cell of these rows narrows 'for every input' (looked for: loops, veiled, ifaces, maps, wideKeys, modest, calm, conditions, laid).
  DERIVED. THE GIVEN ROWS OF THIS SEAT. 4 by the template 'for every input the law returns true; each argument reads behind the call as it read before'; 0 by the template 'total and deterministic' (their statements: YtjnghaajmdaggaaTotals.lean).
  GIVEN WITH THE SEED: the statements are not yours to turn. If you find one false, say at which input.
  Laid BY PROGRAM, IN A SANDBOX (cutbox-rows.mjs): the forced cells as the released guide's own fill.sh prints them over the translation 25023aa428932ce3… (all of the seat's roots in one cut). By AI agents, Wed Nov 11 2026. No macro, syntax, notation, axiom, sorry.
-/
import Derived.Test.YtjnghaajmdaggaaChecked
import GoSem.Claim
import GoSem.ClaimJoined
import GoSem.ClaimMapViews
import Derived.JoinedTies
import Derived.KernelRfl
namespace Go.Proofs.Ytjnghaajmdaggaa
/- THE CELL 'sum', in the pinned program and in every row, IS THE sha256 OF THE DUMP (.gsa) THAT YtjnghaajmdaggaaProg.lean LOADS. Nothing in Lean hashes anything: it is a label: what it is worth is what the hold of that sum in a sandbox is worth. -/
noncomputable def Try.pinned : Pinned := { name := "ytjnghaajmdaggaa", sum := "25023aa428932ce3447d3185d61b1f652eed3565c0cd2cd98c54cca861ac83fb", checked := Try.checked }
namespace Rows
def none {H : Type} : Left H := { results := [], args := [] }

/-- 'laws.FnExactSwitchLog': WHATEVER THE INPUT: true; the input reads as it did. -/
def fnExactSwitchLogSpec : ChangeSpec := { name := "fnExactSwitchLog", fn := fun _ => fun
  | [d1, d2] => { results := [.lit (.bool true)], args := [d1, d2] }
  | _ => none }
def fnExactSwitchLogRow : OpenClaim := { program := "ytjnghaajmdaggaa", sum := "25023aa428932ce3447d3185d61b1f652eed3565c0cd2cd98c54cca861ac83fb", func := "loop.example/g00327/laws.FnExactSwitchLog", spec := "fnExactSwitchLog", apart := false }
def FnExactSwitchLogSaid : Prop := fnExactSwitchLogRow.holds Try.pinned (OpenSpec.ofChange fnExactSwitchLogSpec)

/-- ITS FALSE NEIGHBOUR: 'it returns false'. Refute it at one input. -/
def fnExactSwitchLogWrong : ChangeSpec := { name := "fnExactSwitchLog", fn := fun _ => fun
  | [d1, d2] => { results := [.lit (.bool false)], args := [d1, d2] }
  | _ => none }
def FnExactSwitchLogWrongFalsely : Prop := fnExactSwitchLogRow.holds Try.pinned (OpenSpec.ofChange fnExactSwitchLogWrong)

/-- 'laws.FnLogs': WHATEVER THE INPUT: true; the input reads as it did. -/
def fnLogsSpec : ChangeSpec := { name := "fnLogs", fn := fun _ => fun
  | [d] => { results := [.lit (.bool true)], args := [d] }
  | _ => none }
def fnLogsRow : OpenClaim := { program := "ytjnghaajmdaggaa", sum := "25023aa428932ce3447d3185d61b1f652eed3565c0cd2cd98c54cca861ac83fb", func := "loop.example/g00327/laws.FnLogs", spec := "fnLogs", apart := false }
def FnLogsSaid : Prop := fnLogsRow.holds Try.pinned (OpenSpec.ofChange fnLogsSpec)

/-- ITS FALSE NEIGHBOUR: 'it returns false'. Refute it at one input. -/
def fnLogsWrong : ChangeSpec := { name := "fnLogs", fn := fun _ => fun
  | [d] => { results := [.lit (.bool false)], args := [d] }
  | _ => none }
def FnLogsWrongFalsely : Prop := fnLogsRow.holds Try.pinned (OpenSpec.ofChange fnLogsWrong)

/-- 'laws.FnLogsTold': WHATEVER THE INPUT: true; the input reads as it did. -/
def fnLogsToldSpec : ChangeSpec := { name := "fnLogsTold", fn := fun _ => fun
  | [d] => { results := [.lit (.bool true)], args := [d] }
  | _ => none }
def fnLogsToldRow : OpenClaim := { program := "ytjnghaajmdaggaa", sum := "25023aa428932ce3447d3185d61b1f652eed3565c0cd2cd98c54cca861ac83fb", func := "loop.example/g00327/laws.FnLogsTold", spec := "fnLogsTold", inPlace := ["internal/abi.NoEscape", "internal/bytealg.MakeNoZero"], apart := false }
def FnLogsToldSaid : Prop := fnLogsToldRow.holds Try.pinned (OpenSpec.ofChange fnLogsToldSpec)

/-- ITS FALSE NEIGHBOUR: 'it returns false'. Refute it at one input. -/
def fnLogsToldWrong : ChangeSpec := { name := "fnLogsTold", fn := fun _ => fun
  | [d] => { results := [.lit (.bool false)], args := [d] }
  | _ => none }
def FnLogsToldWrongFalsely : Prop := fnLogsToldRow.holds Try.pinned (OpenSpec.ofChange fnLogsToldWrong)

/-- 'laws.FnSwitches': WHATEVER THE INPUT: true; the input reads as it did. -/
def fnSwitchesSpec : ChangeSpec := { name := "fnSwitches", fn := fun _ => fun
  | [d] => { results := [.lit (.bool true)], args := [d] }
  | _ => none }
def fnSwitchesRow : OpenClaim := { program := "ytjnghaajmdaggaa", sum := "25023aa428932ce3447d3185d61b1f652eed3565c0cd2cd98c54cca861ac83fb", func := "loop.example/g00327/laws.FnSwitches", spec := "fnSwitches", apart := false }
def FnSwitchesSaid : Prop := fnSwitchesRow.holds Try.pinned (OpenSpec.ofChange fnSwitchesSpec)

/-- ITS FALSE NEIGHBOUR: 'it returns false'. Refute it at one input. -/
def fnSwitchesWrong : ChangeSpec := { name := "fnSwitches", fn := fun _ => fun
  | [d] => { results := [.lit (.bool false)], args := [d] }
  | _ => none }
def FnSwitchesWrongFalsely : Prop := fnSwitchesRow.holds Try.pinned (OpenSpec.ofChange fnSwitchesWrong)

/- THE SECOND FORM. 'bulk': how many values and letters a reading holds, each counted each time it is reached (what is shared counts as often as it is met; a slice's spare places count too). A statement '..UptoSaid' is the law's where the arguments, and the package variables that the reading takes, are together of bulk at most 1048576: NARROWER than '..Said'. Prove '..Said' where nothing that the law and all that it calls make is longer than what came in: it says more and counts as full. Else prove '..UptoSaid'. A law counts once. -/
mutual
def uptoBulk {H : Type} : DataW H → Nat
  | .lit (.string bytes) => bytes.length + 1
  | .lit _ => 1
  | .nil => 1
  | .ptr d => uptoBulk d + 1
  | .slice elems spare => uptoBulkAll elems + uptoBulkAll spare + 1
  | .agg parts => uptoBulkAll parts + 1
  | .iface _ d => uptoBulk d + 1
  | .map entries => uptoBulkEntries entries + 1
  | .held _ => 1
def uptoBulkAll {H : Type} : List (DataW H) → Nat
  | [] => 0
  | d :: r => uptoBulk d + uptoBulkAll r
def uptoBulkEntries {H : Type} : List (Lit × DataW H) → Nat
  | [] => 0
  | x :: r => uptoBulkEntry x + uptoBulkEntries r
def uptoBulkEntry {H : Type} : Lit × DataW H → Nat
  | (.string bytes, d) => bytes.length + uptoBulk d + 1
  | (_, d) => uptoBulk d + 1
 end
def uptoSmall : (H : Type) → List (DataW H) → Bool := fun _ ds => decide (uptoBulkAll ds ≤ 1048576)
def OpenSpec.upto (s : _root_.Go.ChangeSpec) : _root_.Go.OpenSpec := { _root_.Go.OpenSpec.ofChange s with cond := some uptoSmall }

/-- 'laws.FnExactSwitchLog', WHERE WHAT IT READS IS OF BULK AT MOST 1048576: true; the input reads as it did. -/
def fnExactSwitchLogUptoRow : OpenClaim := { program := "ytjnghaajmdaggaa", sum := "25023aa428932ce3447d3185d61b1f652eed3565c0cd2cd98c54cca861ac83fb", func := "loop.example/g00327/laws.FnExactSwitchLog", spec := "fnExactSwitchLog", apart := false, narrowed := true }
def FnExactSwitchLogUptoSaid : Prop := fnExactSwitchLogUptoRow.holds Try.pinned (OpenSpec.upto fnExactSwitchLogSpec)

/-- 'laws.FnLogs', WHERE WHAT IT READS IS OF BULK AT MOST 1048576: true; the input reads as it did. -/
def fnLogsUptoRow : OpenClaim := { program := "ytjnghaajmdaggaa", sum := "25023aa428932ce3447d3185d61b1f652eed3565c0cd2cd98c54cca861ac83fb", func := "loop.example/g00327/laws.FnLogs", spec := "fnLogs", apart := false, narrowed := true }
def FnLogsUptoSaid : Prop := fnLogsUptoRow.holds Try.pinned (OpenSpec.upto fnLogsSpec)

/-- 'laws.FnLogsTold', WHERE WHAT IT READS IS OF BULK AT MOST 1048576: true; the input reads as it did. -/
def fnLogsToldUptoRow : OpenClaim := { program := "ytjnghaajmdaggaa", sum := "25023aa428932ce3447d3185d61b1f652eed3565c0cd2cd98c54cca861ac83fb", func := "loop.example/g00327/laws.FnLogsTold", spec := "fnLogsTold", inPlace := ["internal/abi.NoEscape", "internal/bytealg.MakeNoZero"], apart := false, narrowed := true }
def FnLogsToldUptoSaid : Prop := fnLogsToldUptoRow.holds Try.pinned (OpenSpec.upto fnLogsToldSpec)

/-- 'laws.FnSwitches', WHERE WHAT IT READS IS OF BULK AT MOST 1048576: true; the input reads as it did. -/
def fnSwitchesUptoRow : OpenClaim := { program := "ytjnghaajmdaggaa", sum := "25023aa428932ce3447d3185d61b1f652eed3565c0cd2cd98c54cca861ac83fb", func := "loop.example/g00327/laws.FnSwitches", spec := "fnSwitches", apart := false, narrowed := true }
def FnSwitchesUptoSaid : Prop := fnSwitchesUptoRow.holds Try.pinned (OpenSpec.upto fnSwitchesSpec)

end Rows
end Go.Proofs.Ytjnghaajmdaggaa
