/-
  No cell of these rows narrows 'for every input' (looked for: loops, veiled, ifaces, maps, wideKeys, modest, calm, conditions, laid).
  DERIVED. THE GIVEN ROWS OF THIS SEAT. 12 by the template 'for every input the law returns true; each argument reads behind the call as it read before'; 0 by the template 'total and deterministic' (their statements: YtohdlnngfblmbaaTotals.lean).
  GIVEN WITH THE SEED: the statements are not yours to turn. If you find one false, say at which input.
  Laid BY PROGRAM, IN A SANDBOX (cutbox-rows.mjs): the forced cells as the released guide's own fill.sh prints them over the translation 6ccfbe4b1567169e… (all of the seat's roots in one cut). By AI agents, Wed Nov 11 2026. No macro, syntax, notation, axiom, sorry.
-/
import Derived.Test.YtohdlnngfblmbaaChecked
import GoSem.Claim
import GoSem.ClaimJoined
import GoSem.ClaimMapViews
import Derived.JoinedTies
import Derived.KernelRfl
namespace Go.Proofs.Ytohdlnngfblmbaa
/- THE CELL 'sum', in the pinned program and in every row, IS THE sha256 OF THE DUMP (.gsa) THAT YtohdlnngfblmbaaProg.lean LOADS. Nothing in Lean hashes anything: it is a label: what it is worth is what the hold of that sum in a sandbox is worth. -/
noncomputable def Try.pinned : Pinned := { name := "ytohdlnngfblmbaa", sum := "6ccfbe4b1567169ebc6e89ef30ef1238835ac90304902e927f11ce43c7ae8b96", checked := Try.checked }
namespace Rows
def none {H : Type} : Left H := { results := [], args := [] }

/-- 'laws.FnExactUnhex': WHATEVER THE INPUT: true; the input reads as it did. -/
def fnExactUnhexSpec : ChangeSpec := { name := "fnExactUnhex", fn := fun _ => fun
  | [d] => { results := [.lit (.bool true)], args := [d] }
  | _ => none }
def fnExactUnhexRow : OpenClaim := { program := "ytohdlnngfblmbaa", sum := "6ccfbe4b1567169ebc6e89ef30ef1238835ac90304902e927f11ce43c7ae8b96", func := "loop.example/g00327/laws.FnExactUnhex", spec := "fnExactUnhex", inPlace := ["internal/bytealg.IndexByteString"], apart := false }
def FnExactUnhexSaid : Prop := fnExactUnhexRow.holds Try.pinned (OpenSpec.ofChange fnExactUnhexSpec)

/-- ITS FALSE NEIGHBOUR: 'it returns false'. Refute it at one input. -/
def fnExactUnhexWrong : ChangeSpec := { name := "fnExactUnhex", fn := fun _ => fun
  | [d] => { results := [.lit (.bool false)], args := [d] }
  | _ => none }
def FnExactUnhexWrongFalsely : Prop := fnExactUnhexRow.holds Try.pinned (OpenSpec.ofChange fnExactUnhexWrong)

/-- 'laws.FnExactUnsealed': WHATEVER THE INPUT: true; the input reads as it did. -/
def fnExactUnsealedSpec : ChangeSpec := { name := "fnExactUnsealed", fn := fun _ => fun
  | [d] => { results := [.lit (.bool true)], args := [d] }
  | _ => none }
def fnExactUnsealedRow : OpenClaim := { program := "ytohdlnngfblmbaa", sum := "6ccfbe4b1567169ebc6e89ef30ef1238835ac90304902e927f11ce43c7ae8b96", func := "loop.example/g00327/laws.FnExactUnsealed", spec := "fnExactUnsealed", apart := false }
def FnExactUnsealedSaid : Prop := fnExactUnsealedRow.holds Try.pinned (OpenSpec.ofChange fnExactUnsealedSpec)

/-- ITS FALSE NEIGHBOUR: 'it returns false'. Refute it at one input. -/
def fnExactUnsealedWrong : ChangeSpec := { name := "fnExactUnsealed", fn := fun _ => fun
  | [d] => { results := [.lit (.bool false)], args := [d] }
  | _ => none }
def FnExactUnsealedWrongFalsely : Prop := fnExactUnsealedRow.holds Try.pinned (OpenSpec.ofChange fnExactUnsealedWrong)

/-- 'laws.FnExactReadVar': WHATEVER THE INPUT: true; the input reads as it did. -/
def fnExactReadVarSpec : ChangeSpec := { name := "fnExactReadVar", fn := fun _ => fun
  | [d1, d2] => { results := [.lit (.bool true)], args := [d1, d2] }
  | _ => none }
def fnExactReadVarRow : OpenClaim := { program := "ytohdlnngfblmbaa", sum := "6ccfbe4b1567169ebc6e89ef30ef1238835ac90304902e927f11ce43c7ae8b96", func := "loop.example/g00327/laws.FnExactReadVar", spec := "fnExactReadVar", apart := false }
def FnExactReadVarSaid : Prop := fnExactReadVarRow.holds Try.pinned (OpenSpec.ofChange fnExactReadVarSpec)

/-- ITS FALSE NEIGHBOUR: 'it returns false'. Refute it at one input. -/
def fnExactReadVarWrong : ChangeSpec := { name := "fnExactReadVar", fn := fun _ => fun
  | [d1, d2] => { results := [.lit (.bool false)], args := [d1, d2] }
  | _ => none }
def FnExactReadVarWrongFalsely : Prop := fnExactReadVarRow.holds Try.pinned (OpenSpec.ofChange fnExactReadVarWrong)

/-- 'laws.FnExactReadShort': WHATEVER THE INPUT: true; the input reads as it did. -/
def fnExactReadShortSpec : ChangeSpec := { name := "fnExactReadShort", fn := fun _ => fun
  | [d1, d2] => { results := [.lit (.bool true)], args := [d1, d2] }
  | _ => none }
def fnExactReadShortRow : OpenClaim := { program := "ytohdlnngfblmbaa", sum := "6ccfbe4b1567169ebc6e89ef30ef1238835ac90304902e927f11ce43c7ae8b96", func := "loop.example/g00327/laws.FnExactReadShort", spec := "fnExactReadShort", apart := false }
def FnExactReadShortSaid : Prop := fnExactReadShortRow.holds Try.pinned (OpenSpec.ofChange fnExactReadShortSpec)

/-- ITS FALSE NEIGHBOUR: 'it returns false'. Refute it at one input. -/
def fnExactReadShortWrong : ChangeSpec := { name := "fnExactReadShort", fn := fun _ => fun
  | [d1, d2] => { results := [.lit (.bool false)], args := [d1, d2] }
  | _ => none }
def FnExactReadShortWrongFalsely : Prop := fnExactReadShortRow.holds Try.pinned (OpenSpec.ofChange fnExactReadShortWrong)

/-- 'laws.FnExactMeets': WHATEVER THE INPUT: true; the input reads as it did. -/
def fnExactMeetsSpec : ChangeSpec := { name := "fnExactMeets", fn := fun _ => fun
  | [d1, d2] => { results := [.lit (.bool true)], args := [d1, d2] }
  | _ => none }
def fnExactMeetsRow : OpenClaim := { program := "ytohdlnngfblmbaa", sum := "6ccfbe4b1567169ebc6e89ef30ef1238835ac90304902e927f11ce43c7ae8b96", func := "loop.example/g00327/laws.FnExactMeets", spec := "fnExactMeets", apart := false }
def FnExactMeetsSaid : Prop := fnExactMeetsRow.holds Try.pinned (OpenSpec.ofChange fnExactMeetsSpec)

/-- ITS FALSE NEIGHBOUR: 'it returns false'. Refute it at one input. -/
def fnExactMeetsWrong : ChangeSpec := { name := "fnExactMeets", fn := fun _ => fun
  | [d1, d2] => { results := [.lit (.bool false)], args := [d1, d2] }
  | _ => none }
def FnExactMeetsWrongFalsely : Prop := fnExactMeetsRow.holds Try.pinned (OpenSpec.ofChange fnExactMeetsWrong)

/-- 'laws.FnTurned': WHATEVER THE INPUT: true; the input reads as it did. -/
def fnTurnedSpec : ChangeSpec := { name := "fnTurned", fn := fun _ => fun
  | [d] => { results := [.lit (.bool true)], args := [d] }
  | _ => none }
def fnTurnedRow : OpenClaim := { program := "ytohdlnngfblmbaa", sum := "6ccfbe4b1567169ebc6e89ef30ef1238835ac90304902e927f11ce43c7ae8b96", func := "loop.example/g00327/laws.FnTurned", spec := "fnTurned", apart := false }
def FnTurnedSaid : Prop := fnTurnedRow.holds Try.pinned (OpenSpec.ofChange fnTurnedSpec)

/-- ITS FALSE NEIGHBOUR: 'it returns false'. Refute it at one input. -/
def fnTurnedWrong : ChangeSpec := { name := "fnTurned", fn := fun _ => fun
  | [d] => { results := [.lit (.bool false)], args := [d] }
  | _ => none }
def FnTurnedWrongFalsely : Prop := fnTurnedRow.holds Try.pinned (OpenSpec.ofChange fnTurnedWrong)

/-- 'laws.FnExactSeenAt': WHATEVER THE INPUT: true; the input reads as it did. -/
def fnExactSeenAtSpec : ChangeSpec := { name := "fnExactSeenAt", fn := fun _ => fun
  | [d1, d2, d3] => { results := [.lit (.bool true)], args := [d1, d2, d3] }
  | _ => none }
def fnExactSeenAtRow : OpenClaim := { program := "ytohdlnngfblmbaa", sum := "6ccfbe4b1567169ebc6e89ef30ef1238835ac90304902e927f11ce43c7ae8b96", func := "loop.example/g00327/laws.FnExactSeenAt", spec := "fnExactSeenAt", apart := false }
def FnExactSeenAtSaid : Prop := fnExactSeenAtRow.holds Try.pinned (OpenSpec.ofChange fnExactSeenAtSpec)

/-- ITS FALSE NEIGHBOUR: 'it returns false'. Refute it at one input. -/
def fnExactSeenAtWrong : ChangeSpec := { name := "fnExactSeenAt", fn := fun _ => fun
  | [d1, d2, d3] => { results := [.lit (.bool false)], args := [d1, d2, d3] }
  | _ => none }
def FnExactSeenAtWrongFalsely : Prop := fnExactSeenAtRow.holds Try.pinned (OpenSpec.ofChange fnExactSeenAtWrong)

/-- 'laws.FnExactWritesOk': WHATEVER THE INPUT: true; the input reads as it did. -/
def fnExactWritesOkSpec : ChangeSpec := { name := "fnExactWritesOk", fn := fun _ => fun
  | [d] => { results := [.lit (.bool true)], args := [d] }
  | _ => none }
def fnExactWritesOkRow : OpenClaim := { program := "ytohdlnngfblmbaa", sum := "6ccfbe4b1567169ebc6e89ef30ef1238835ac90304902e927f11ce43c7ae8b96", func := "loop.example/g00327/laws.FnExactWritesOk", spec := "fnExactWritesOk", apart := false }
def FnExactWritesOkSaid : Prop := fnExactWritesOkRow.holds Try.pinned (OpenSpec.ofChange fnExactWritesOkSpec)

/-- ITS FALSE NEIGHBOUR: 'it returns false'. Refute it at one input. -/
def fnExactWritesOkWrong : ChangeSpec := { name := "fnExactWritesOk", fn := fun _ => fun
  | [d] => { results := [.lit (.bool false)], args := [d] }
  | _ => none }
def FnExactWritesOkWrongFalsely : Prop := fnExactWritesOkRow.holds Try.pinned (OpenSpec.ofChange fnExactWritesOkWrong)

/-- 'laws.FnExactVersionsOk': WHATEVER THE INPUT: true; the input reads as it did. -/
def fnExactVersionsOkSpec : ChangeSpec := { name := "fnExactVersionsOk", fn := fun _ => fun
  | [d] => { results := [.lit (.bool true)], args := [d] }
  | _ => none }
def fnExactVersionsOkRow : OpenClaim := { program := "ytohdlnngfblmbaa", sum := "6ccfbe4b1567169ebc6e89ef30ef1238835ac90304902e927f11ce43c7ae8b96", func := "loop.example/g00327/laws.FnExactVersionsOk", spec := "fnExactVersionsOk", apart := false }
def FnExactVersionsOkSaid : Prop := fnExactVersionsOkRow.holds Try.pinned (OpenSpec.ofChange fnExactVersionsOkSpec)

/-- ITS FALSE NEIGHBOUR: 'it returns false'. Refute it at one input. -/
def fnExactVersionsOkWrong : ChangeSpec := { name := "fnExactVersionsOk", fn := fun _ => fun
  | [d] => { results := [.lit (.bool false)], args := [d] }
  | _ => none }
def FnExactVersionsOkWrongFalsely : Prop := fnExactVersionsOkRow.holds Try.pinned (OpenSpec.ofChange fnExactVersionsOkWrong)

/-- 'laws.FnExactTouches': WHATEVER THE INPUT: true; the input reads as it did. -/
def fnExactTouchesSpec : ChangeSpec := { name := "fnExactTouches", fn := fun _ => fun
  | [d1, d2] => { results := [.lit (.bool true)], args := [d1, d2] }
  | _ => none }
def fnExactTouchesRow : OpenClaim := { program := "ytohdlnngfblmbaa", sum := "6ccfbe4b1567169ebc6e89ef30ef1238835ac90304902e927f11ce43c7ae8b96", func := "loop.example/g00327/laws.FnExactTouches", spec := "fnExactTouches", apart := false }
def FnExactTouchesSaid : Prop := fnExactTouchesRow.holds Try.pinned (OpenSpec.ofChange fnExactTouchesSpec)

/-- ITS FALSE NEIGHBOUR: 'it returns false'. Refute it at one input. -/
def fnExactTouchesWrong : ChangeSpec := { name := "fnExactTouches", fn := fun _ => fun
  | [d1, d2] => { results := [.lit (.bool false)], args := [d1, d2] }
  | _ => none }
def FnExactTouchesWrongFalsely : Prop := fnExactTouchesRow.holds Try.pinned (OpenSpec.ofChange fnExactTouchesWrong)

/-- 'laws.FnKeys': WHATEVER THE INPUT: true; the input reads as it did. -/
def fnKeysSpec : ChangeSpec := { name := "fnKeys", fn := fun _ => fun
  | [d] => { results := [.lit (.bool true)], args := [d] }
  | _ => none }
def fnKeysRow : OpenClaim := { program := "ytohdlnngfblmbaa", sum := "6ccfbe4b1567169ebc6e89ef30ef1238835ac90304902e927f11ce43c7ae8b96", func := "loop.example/g00327/laws.FnKeys", spec := "fnKeys", apart := false }
def FnKeysSaid : Prop := fnKeysRow.holds Try.pinned (OpenSpec.ofChange fnKeysSpec)

/-- ITS FALSE NEIGHBOUR: 'it returns false'. Refute it at one input. -/
def fnKeysWrong : ChangeSpec := { name := "fnKeys", fn := fun _ => fun
  | [d] => { results := [.lit (.bool false)], args := [d] }
  | _ => none }
def FnKeysWrongFalsely : Prop := fnKeysRow.holds Try.pinned (OpenSpec.ofChange fnKeysWrong)

/-- 'laws.FnWrites': WHATEVER THE INPUT: true; the input reads as it did. -/
def fnWritesSpec : ChangeSpec := { name := "fnWrites", fn := fun _ => fun
  | [d] => { results := [.lit (.bool true)], args := [d] }
  | _ => none }
def fnWritesRow : OpenClaim := { program := "ytohdlnngfblmbaa", sum := "6ccfbe4b1567169ebc6e89ef30ef1238835ac90304902e927f11ce43c7ae8b96", func := "loop.example/g00327/laws.FnWrites", spec := "fnWrites", inPlace := ["slices.overlaps[loop.example/g00327/impl.Write]"], apart := false }
def FnWritesSaid : Prop := fnWritesRow.holds Try.pinned (OpenSpec.ofChange fnWritesSpec)

/-- ITS FALSE NEIGHBOUR: 'it returns false'. Refute it at one input. -/
def fnWritesWrong : ChangeSpec := { name := "fnWrites", fn := fun _ => fun
  | [d] => { results := [.lit (.bool false)], args := [d] }
  | _ => none }
def FnWritesWrongFalsely : Prop := fnWritesRow.holds Try.pinned (OpenSpec.ofChange fnWritesWrong)

/- THE SECOND FORM. 'bulk': how many values and letters a reading holds, each counted each time it is reached (what is shared counts as often as it is met; a slice's spare places count too). A statement '..UptoSaid' is the law's where the arguments, and the package variables that the reading takes, are together of bulk at most 1048576: NARROWER than '..Said'. Prove '..Said' where nothing that the law and all that it calls make is longer than what came in: it says more and counts as full. Else prove '..UptoSaid'. A law counts once. -/
mutual
def uptoBulk {H : Type} : DataW H → Nat
  | .lit (.string bytes) => bytes.length + 1
  | .lit _ => 1
  | .nil => 1
  | .ptr d => uptoBulk d + 1
  | .slice elems spare => uptoBulkAll elems + uptoBulkAll spare + 1
  | .agg parts => uptoBulkAll parts + 1
  | .iface _ d => uptoBulk d + 1
  | .map entries => uptoBulkEntries entries + 1
  | .held _ => 1
def uptoBulkAll {H : Type} : List (DataW H) → Nat
  | [] => 0
  | d :: r => uptoBulk d + uptoBulkAll r
def uptoBulkEntries {H : Type} : List (Lit × DataW H) → Nat
  | [] => 0
  | x :: r => uptoBulkEntry x + uptoBulkEntries r
def uptoBulkEntry {H : Type} : Lit × DataW H → Nat
  | (.string bytes, d) => bytes.length + uptoBulk d + 1
  | (_, d) => uptoBulk d + 1
 end
def uptoSmall : (H : Type) → List (DataW H) → Bool := fun _ ds => decide (uptoBulkAll ds ≤ 1048576)
def OpenSpec.upto (s : _root_.Go.ChangeSpec) : _root_.Go.OpenSpec := { _root_.Go.OpenSpec.ofChange s with cond := some uptoSmall }

/-- 'laws.FnExactUnhex', WHERE WHAT IT READS IS OF BULK AT MOST 1048576: true; the input reads as it did. -/
def fnExactUnhexUptoRow : OpenClaim := { program := "ytohdlnngfblmbaa", sum := "6ccfbe4b1567169ebc6e89ef30ef1238835ac90304902e927f11ce43c7ae8b96", func := "loop.example/g00327/laws.FnExactUnhex", spec := "fnExactUnhex", inPlace := ["internal/bytealg.IndexByteString"], apart := false, narrowed := true }
def FnExactUnhexUptoSaid : Prop := fnExactUnhexUptoRow.holds Try.pinned (OpenSpec.upto fnExactUnhexSpec)

/-- 'laws.FnExactUnsealed', WHERE WHAT IT READS IS OF BULK AT MOST 1048576: true; the input reads as it did. -/
def fnExactUnsealedUptoRow : OpenClaim := { program := "ytohdlnngfblmbaa", sum := "6ccfbe4b1567169ebc6e89ef30ef1238835ac90304902e927f11ce43c7ae8b96", func := "loop.example/g00327/laws.FnExactUnsealed", spec := "fnExactUnsealed", apart := false, narrowed := true }
def FnExactUnsealedUptoSaid : Prop := fnExactUnsealedUptoRow.holds Try.pinned (OpenSpec.upto fnExactUnsealedSpec)

/-- 'laws.FnExactReadVar', WHERE WHAT IT READS IS OF BULK AT MOST 1048576: true; the input reads as it did. -/
def fnExactReadVarUptoRow : OpenClaim := { program := "ytohdlnngfblmbaa", sum := "6ccfbe4b1567169ebc6e89ef30ef1238835ac90304902e927f11ce43c7ae8b96", func := "loop.example/g00327/laws.FnExactReadVar", spec := "fnExactReadVar", apart := false, narrowed := true }
def FnExactReadVarUptoSaid : Prop := fnExactReadVarUptoRow.holds Try.pinned (OpenSpec.upto fnExactReadVarSpec)

/-- 'laws.FnExactReadShort', WHERE WHAT IT READS IS OF BULK AT MOST 1048576: true; the input reads as it did. -/
def fnExactReadShortUptoRow : OpenClaim := { program := "ytohdlnngfblmbaa", sum := "6ccfbe4b1567169ebc6e89ef30ef1238835ac90304902e927f11ce43c7ae8b96", func := "loop.example/g00327/laws.FnExactReadShort", spec := "fnExactReadShort", apart := false, narrowed := true }
def FnExactReadShortUptoSaid : Prop := fnExactReadShortUptoRow.holds Try.pinned (OpenSpec.upto fnExactReadShortSpec)

/-- 'laws.FnExactMeets', WHERE WHAT IT READS IS OF BULK AT MOST 1048576: true; the input reads as it did. -/
def fnExactMeetsUptoRow : OpenClaim := { program := "ytohdlnngfblmbaa", sum := "6ccfbe4b1567169ebc6e89ef30ef1238835ac90304902e927f11ce43c7ae8b96", func := "loop.example/g00327/laws.FnExactMeets", spec := "fnExactMeets", apart := false, narrowed := true }
def FnExactMeetsUptoSaid : Prop := fnExactMeetsUptoRow.holds Try.pinned (OpenSpec.upto fnExactMeetsSpec)

/-- 'laws.FnTurned', WHERE WHAT IT READS IS OF BULK AT MOST 1048576: true; the input reads as it did. -/
def fnTurnedUptoRow : OpenClaim := { program := "ytohdlnngfblmbaa", sum := "6ccfbe4b1567169ebc6e89ef30ef1238835ac90304902e927f11ce43c7ae8b96", func := "loop.example/g00327/laws.FnTurned", spec := "fnTurned", apart := false, narrowed := true }
def FnTurnedUptoSaid : Prop := fnTurnedUptoRow.holds Try.pinned (OpenSpec.upto fnTurnedSpec)

/-- 'laws.FnExactSeenAt', WHERE WHAT IT READS IS OF BULK AT MOST 1048576: true; the input reads as it did. -/
def fnExactSeenAtUptoRow : OpenClaim := { program := "ytohdlnngfblmbaa", sum := "6ccfbe4b1567169ebc6e89ef30ef1238835ac90304902e927f11ce43c7ae8b96", func := "loop.example/g00327/laws.FnExactSeenAt", spec := "fnExactSeenAt", apart := false, narrowed := true }
def FnExactSeenAtUptoSaid : Prop := fnExactSeenAtUptoRow.holds Try.pinned (OpenSpec.upto fnExactSeenAtSpec)

/-- 'laws.FnExactWritesOk', WHERE WHAT IT READS IS OF BULK AT MOST 1048576: true; the input reads as it did. -/
def fnExactWritesOkUptoRow : OpenClaim := { program := "ytohdlnngfblmbaa", sum := "6ccfbe4b1567169ebc6e89ef30ef1238835ac90304902e927f11ce43c7ae8b96", func := "loop.example/g00327/laws.FnExactWritesOk", spec := "fnExactWritesOk", apart := false, narrowed := true }
def FnExactWritesOkUptoSaid : Prop := fnExactWritesOkUptoRow.holds Try.pinned (OpenSpec.upto fnExactWritesOkSpec)

/-- 'laws.FnExactVersionsOk', WHERE WHAT IT READS IS OF BULK AT MOST 1048576: true; the input reads as it did. -/
def fnExactVersionsOkUptoRow : OpenClaim := { program := "ytohdlnngfblmbaa", sum := "6ccfbe4b1567169ebc6e89ef30ef1238835ac90304902e927f11ce43c7ae8b96", func := "loop.example/g00327/laws.FnExactVersionsOk", spec := "fnExactVersionsOk", apart := false, narrowed := true }
def FnExactVersionsOkUptoSaid : Prop := fnExactVersionsOkUptoRow.holds Try.pinned (OpenSpec.upto fnExactVersionsOkSpec)

/-- 'laws.FnExactTouches', WHERE WHAT IT READS IS OF BULK AT MOST 1048576: true; the input reads as it did. -/
def fnExactTouchesUptoRow : OpenClaim := { program := "ytohdlnngfblmbaa", sum := "6ccfbe4b1567169ebc6e89ef30ef1238835ac90304902e927f11ce43c7ae8b96", func := "loop.example/g00327/laws.FnExactTouches", spec := "fnExactTouches", apart := false, narrowed := true }
def FnExactTouchesUptoSaid : Prop := fnExactTouchesUptoRow.holds Try.pinned (OpenSpec.upto fnExactTouchesSpec)

/-- 'laws.FnKeys', WHERE WHAT IT READS IS OF BULK AT MOST 1048576: true; the input reads as it did. -/
def fnKeysUptoRow : OpenClaim := { program := "ytohdlnngfblmbaa", sum := "6ccfbe4b1567169ebc6e89ef30ef1238835ac90304902e927f11ce43c7ae8b96", func := "loop.example/g00327/laws.FnKeys", spec := "fnKeys", apart := false, narrowed := true }
def FnKeysUptoSaid : Prop := fnKeysUptoRow.holds Try.pinned (OpenSpec.upto fnKeysSpec)

/-- 'laws.FnWrites', WHERE WHAT IT READS IS OF BULK AT MOST 1048576: true; the input reads as it did. -/
def fnWritesUptoRow : OpenClaim := { program := "ytohdlnngfblmbaa", sum := "6ccfbe4b1567169ebc6e89ef30ef1238835ac90304902e927f11ce43c7ae8b96", func := "loop.example/g00327/laws.FnWrites", spec := "fnWrites", inPlace := ["slices.overlaps[loop.example/g00327/impl.Write]"], apart := false, narrowed := true }
def FnWritesUptoSaid : Prop := fnWritesUptoRow.holds Try.pinned (OpenSpec.upto fnWritesSpec)

end Rows
end Go.Proofs.Ytohdlnngfblmbaa
