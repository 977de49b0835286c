/-
  No cell of these rows narrows 'for every input' (looked for: loops, veiled, ifaces, maps, wideKeys, modest, calm, conditions, laid).
  DERIVED. THE GIVEN ROWS OF THIS SEAT. 12 by the template 'for every input the law returns true; each argument reads behind the call as it read before'; 0 by the template 'total and deterministic' (their statements: YtfgjhfoljeaiiaaTotals.lean).
  GIVEN WITH THE SEED: the statements are not yours to turn. If you find one false, say at which input.
  Laid BY PROGRAM, IN A SANDBOX (cutbox-rows.mjs): the forced cells as the released guide's own fill.sh prints them over the translation 348ca4fda45f0bf3… (all of the seat's roots in one cut). By AI agents, Wed Nov 11 2026. No macro, syntax, notation, axiom, sorry.
-/
import Derived.Test.YtfgjhfoljeaiiaaChecked
import GoSem.Claim
import GoSem.ClaimJoined
import GoSem.ClaimMapViews
import Derived.JoinedTies
import Derived.KernelRfl
namespace Go.Proofs.Ytfgjhfoljeaiiaa
/- THE CELL 'sum', in the pinned program and in every row, IS THE sha256 OF THE DUMP (.gsa) THAT YtfgjhfoljeaiiaaProg.lean LOADS. Nothing in Lean hashes anything: it is a label: what it is worth is what the hold of that sum in a sandbox is worth. -/
noncomputable def Try.pinned : Pinned := { name := "ytfgjhfoljeaiiaa", sum := "348ca4fda45f0bf3f9573f9781778484fe0348e8900e936792f1b57c3dcaf876", checked := Try.checked }
namespace Rows
def none {H : Type} : Left H := { results := [], args := [] }

/-- 'laws.FnExactReadSector': WHATEVER THE INPUT: true; the input reads as it did. -/
def fnExactReadSectorSpec : ChangeSpec := { name := "fnExactReadSector", fn := fun _ => fun
  | [d1, d2] => { results := [.lit (.bool true)], args := [d1, d2] }
  | _ => none }
def fnExactReadSectorRow : OpenClaim := { program := "ytfgjhfoljeaiiaa", sum := "348ca4fda45f0bf3f9573f9781778484fe0348e8900e936792f1b57c3dcaf876", func := "loop.example/g00327/laws.FnExactReadSector", spec := "fnExactReadSector", apart := false }
def FnExactReadSectorSaid : Prop := fnExactReadSectorRow.holds Try.pinned (OpenSpec.ofChange fnExactReadSectorSpec)

/-- ITS FALSE NEIGHBOUR: 'it returns false'. Refute it at one input. -/
def fnExactReadSectorWrong : ChangeSpec := { name := "fnExactReadSector", fn := fun _ => fun
  | [d1, d2] => { results := [.lit (.bool false)], args := [d1, d2] }
  | _ => none }
def FnExactReadSectorWrongFalsely : Prop := fnExactReadSectorRow.holds Try.pinned (OpenSpec.ofChange fnExactReadSectorWrong)

/-- 'laws.FnExactDiskOk': WHATEVER THE INPUT: true; the input reads as it did. -/
def fnExactDiskOkSpec : ChangeSpec := { name := "fnExactDiskOk", fn := fun _ => fun
  | [d] => { results := [.lit (.bool true)], args := [d] }
  | _ => none }
def fnExactDiskOkRow : OpenClaim := { program := "ytfgjhfoljeaiiaa", sum := "348ca4fda45f0bf3f9573f9781778484fe0348e8900e936792f1b57c3dcaf876", func := "loop.example/g00327/laws.FnExactDiskOk", spec := "fnExactDiskOk", apart := false }
def FnExactDiskOkSaid : Prop := fnExactDiskOkRow.holds Try.pinned (OpenSpec.ofChange fnExactDiskOkSpec)

/-- ITS FALSE NEIGHBOUR: 'it returns false'. Refute it at one input. -/
def fnExactDiskOkWrong : ChangeSpec := { name := "fnExactDiskOk", fn := fun _ => fun
  | [d] => { results := [.lit (.bool false)], args := [d] }
  | _ => none }
def FnExactDiskOkWrongFalsely : Prop := fnExactDiskOkRow.holds Try.pinned (OpenSpec.ofChange fnExactDiskOkWrong)

/-- 'laws.FnExactActiveOf': WHATEVER THE INPUT: true; the input reads as it did. -/
def fnExactActiveOfSpec : ChangeSpec := { name := "fnExactActiveOf", fn := fun _ => fun
  | [d] => { results := [.lit (.bool true)], args := [d] }
  | _ => none }
def fnExactActiveOfRow : OpenClaim := { program := "ytfgjhfoljeaiiaa", sum := "348ca4fda45f0bf3f9573f9781778484fe0348e8900e936792f1b57c3dcaf876", func := "loop.example/g00327/laws.FnExactActiveOf", spec := "fnExactActiveOf", apart := false }
def FnExactActiveOfSaid : Prop := fnExactActiveOfRow.holds Try.pinned (OpenSpec.ofChange fnExactActiveOfSpec)

/-- ITS FALSE NEIGHBOUR: 'it returns false'. Refute it at one input. -/
def fnExactActiveOfWrong : ChangeSpec := { name := "fnExactActiveOf", fn := fun _ => fun
  | [d] => { results := [.lit (.bool false)], args := [d] }
  | _ => none }
def FnExactActiveOfWrongFalsely : Prop := fnExactActiveOfRow.holds Try.pinned (OpenSpec.ofChange fnExactActiveOfWrong)

/-- 'laws.FnExactSectorText': WHATEVER THE INPUT: true; the input reads as it did. -/
def fnExactSectorTextSpec : ChangeSpec := { name := "fnExactSectorText", fn := fun _ => fun
  | [d1, d2, d3] => { results := [.lit (.bool true)], args := [d1, d2, d3] }
  | _ => none }
def fnExactSectorTextRow : OpenClaim := { program := "ytfgjhfoljeaiiaa", sum := "348ca4fda45f0bf3f9573f9781778484fe0348e8900e936792f1b57c3dcaf876", func := "loop.example/g00327/laws.FnExactSectorText", spec := "fnExactSectorText", apart := false }
def FnExactSectorTextSaid : Prop := fnExactSectorTextRow.holds Try.pinned (OpenSpec.ofChange fnExactSectorTextSpec)

/-- ITS FALSE NEIGHBOUR: 'it returns false'. Refute it at one input. -/
def fnExactSectorTextWrong : ChangeSpec := { name := "fnExactSectorText", fn := fun _ => fun
  | [d1, d2, d3] => { results := [.lit (.bool false)], args := [d1, d2, d3] }
  | _ => none }
def FnExactSectorTextWrongFalsely : Prop := fnExactSectorTextRow.holds Try.pinned (OpenSpec.ofChange fnExactSectorTextWrong)

/-- 'laws.FnExactCountIn': WHATEVER THE INPUT: true; the input reads as it did. -/
def fnExactCountInSpec : ChangeSpec := { name := "fnExactCountIn", fn := fun _ => fun
  | [d1, d2] => { results := [.lit (.bool true)], args := [d1, d2] }
  | _ => none }
def fnExactCountInRow : OpenClaim := { program := "ytfgjhfoljeaiiaa", sum := "348ca4fda45f0bf3f9573f9781778484fe0348e8900e936792f1b57c3dcaf876", func := "loop.example/g00327/laws.FnExactCountIn", spec := "fnExactCountIn", apart := false }
def FnExactCountInSaid : Prop := fnExactCountInRow.holds Try.pinned (OpenSpec.ofChange fnExactCountInSpec)

/-- ITS FALSE NEIGHBOUR: 'it returns false'. Refute it at one input. -/
def fnExactCountInWrong : ChangeSpec := { name := "fnExactCountIn", fn := fun _ => fun
  | [d1, d2] => { results := [.lit (.bool false)], args := [d1, d2] }
  | _ => none }
def FnExactCountInWrongFalsely : Prop := fnExactCountInRow.holds Try.pinned (OpenSpec.ofChange fnExactCountInWrong)

/-- 'laws.FnSectors': WHATEVER THE INPUT: true; the input reads as it did. -/
def fnSectorsSpec : ChangeSpec := { name := "fnSectors", fn := fun _ => fun
  | [d] => { results := [.lit (.bool true)], args := [d] }
  | _ => none }
def fnSectorsRow : OpenClaim := { program := "ytfgjhfoljeaiiaa", sum := "348ca4fda45f0bf3f9573f9781778484fe0348e8900e936792f1b57c3dcaf876", func := "loop.example/g00327/laws.FnSectors", spec := "fnSectors", apart := false }
def FnSectorsSaid : Prop := fnSectorsRow.holds Try.pinned (OpenSpec.ofChange fnSectorsSpec)

/-- ITS FALSE NEIGHBOUR: 'it returns false'. Refute it at one input. -/
def fnSectorsWrong : ChangeSpec := { name := "fnSectors", fn := fun _ => fun
  | [d] => { results := [.lit (.bool false)], args := [d] }
  | _ => none }
def FnSectorsWrongFalsely : Prop := fnSectorsRow.holds Try.pinned (OpenSpec.ofChange fnSectorsWrong)

/-- 'laws.FnTorn': WHATEVER THE INPUT: true; the input reads as it did. -/
def fnTornSpec : ChangeSpec := { name := "fnTorn", fn := fun _ => fun
  | [d] => { results := [.lit (.bool true)], args := [d] }
  | _ => none }
def fnTornRow : OpenClaim := { program := "ytfgjhfoljeaiiaa", sum := "348ca4fda45f0bf3f9573f9781778484fe0348e8900e936792f1b57c3dcaf876", func := "loop.example/g00327/laws.FnTorn", spec := "fnTorn", apart := false }
def FnTornSaid : Prop := fnTornRow.holds Try.pinned (OpenSpec.ofChange fnTornSpec)

/-- ITS FALSE NEIGHBOUR: 'it returns false'. Refute it at one input. -/
def fnTornWrong : ChangeSpec := { name := "fnTorn", fn := fun _ => fun
  | [d] => { results := [.lit (.bool false)], args := [d] }
  | _ => none }
def FnTornWrongFalsely : Prop := fnTornRow.holds Try.pinned (OpenSpec.ofChange fnTornWrong)

/-- 'laws.FnExactWriteSector': WHATEVER THE INPUT: true; the input reads as it did. -/
def fnExactWriteSectorSpec : ChangeSpec := { name := "fnExactWriteSector", fn := fun _ => fun
  | [d1, d2, d3] => { results := [.lit (.bool true)], args := [d1, d2, d3] }
  | _ => none }
def fnExactWriteSectorRow : OpenClaim := { program := "ytfgjhfoljeaiiaa", sum := "348ca4fda45f0bf3f9573f9781778484fe0348e8900e936792f1b57c3dcaf876", func := "loop.example/g00327/laws.FnExactWriteSector", spec := "fnExactWriteSector", apart := false }
def FnExactWriteSectorSaid : Prop := fnExactWriteSectorRow.holds Try.pinned (OpenSpec.ofChange fnExactWriteSectorSpec)

/-- ITS FALSE NEIGHBOUR: 'it returns false'. Refute it at one input. -/
def fnExactWriteSectorWrong : ChangeSpec := { name := "fnExactWriteSector", fn := fun _ => fun
  | [d1, d2, d3] => { results := [.lit (.bool false)], args := [d1, d2, d3] }
  | _ => none }
def FnExactWriteSectorWrongFalsely : Prop := fnExactWriteSectorRow.holds Try.pinned (OpenSpec.ofChange fnExactWriteSectorWrong)

/-- 'laws.FnExactFlushDisk': WHATEVER THE INPUT: true; the input reads as it did. -/
def fnExactFlushDiskSpec : ChangeSpec := { name := "fnExactFlushDisk", fn := fun _ => fun
  | [d] => { results := [.lit (.bool true)], args := [d] }
  | _ => none }
def fnExactFlushDiskRow : OpenClaim := { program := "ytfgjhfoljeaiiaa", sum := "348ca4fda45f0bf3f9573f9781778484fe0348e8900e936792f1b57c3dcaf876", func := "loop.example/g00327/laws.FnExactFlushDisk", spec := "fnExactFlushDisk", apart := false }
def FnExactFlushDiskSaid : Prop := fnExactFlushDiskRow.holds Try.pinned (OpenSpec.ofChange fnExactFlushDiskSpec)

/-- ITS FALSE NEIGHBOUR: 'it returns false'. Refute it at one input. -/
def fnExactFlushDiskWrong : ChangeSpec := { name := "fnExactFlushDisk", fn := fun _ => fun
  | [d] => { results := [.lit (.bool false)], args := [d] }
  | _ => none }
def FnExactFlushDiskWrongFalsely : Prop := fnExactFlushDiskRow.holds Try.pinned (OpenSpec.ofChange fnExactFlushDiskWrong)

/-- 'laws.FnExactDiskNew': WHATEVER THE INPUT: true; the input reads as it did. -/
def fnExactDiskNewSpec : ChangeSpec := { name := "fnExactDiskNew", fn := fun _ => fun
  | [d] => { results := [.lit (.bool true)], args := [d] }
  | _ => none }
def fnExactDiskNewRow : OpenClaim := { program := "ytfgjhfoljeaiiaa", sum := "348ca4fda45f0bf3f9573f9781778484fe0348e8900e936792f1b57c3dcaf876", func := "loop.example/g00327/laws.FnExactDiskNew", spec := "fnExactDiskNew", inPlace := ["internal/abi.NoEscape", "internal/bytealg.MakeNoZero"], apart := false }
def FnExactDiskNewSaid : Prop := fnExactDiskNewRow.holds Try.pinned (OpenSpec.ofChange fnExactDiskNewSpec)

/-- ITS FALSE NEIGHBOUR: 'it returns false'. Refute it at one input. -/
def fnExactDiskNewWrong : ChangeSpec := { name := "fnExactDiskNew", fn := fun _ => fun
  | [d] => { results := [.lit (.bool false)], args := [d] }
  | _ => none }
def FnExactDiskNewWrongFalsely : Prop := fnExactDiskNewRow.holds Try.pinned (OpenSpec.ofChange fnExactDiskNewWrong)

/-- 'laws.FnCrashes': WHATEVER THE INPUT: true; the input reads as it did. -/
def fnCrashesSpec : ChangeSpec := { name := "fnCrashes", fn := fun _ => fun
  | [d] => { results := [.lit (.bool true)], args := [d] }
  | _ => none }
def fnCrashesRow : OpenClaim := { program := "ytfgjhfoljeaiiaa", sum := "348ca4fda45f0bf3f9573f9781778484fe0348e8900e936792f1b57c3dcaf876", func := "loop.example/g00327/laws.FnCrashes", spec := "fnCrashes", apart := false }
def FnCrashesSaid : Prop := fnCrashesRow.holds Try.pinned (OpenSpec.ofChange fnCrashesSpec)

/-- ITS FALSE NEIGHBOUR: 'it returns false'. Refute it at one input. -/
def fnCrashesWrong : ChangeSpec := { name := "fnCrashes", fn := fun _ => fun
  | [d] => { results := [.lit (.bool false)], args := [d] }
  | _ => none }
def FnCrashesWrongFalsely : Prop := fnCrashesRow.holds Try.pinned (OpenSpec.ofChange fnCrashesWrong)

/-- 'laws.FnExactCrashDisk': WHATEVER THE INPUT: true; the input reads as it did. -/
def fnExactCrashDiskSpec : ChangeSpec := { name := "fnExactCrashDisk", fn := fun _ => fun
  | [d1, d2, d3] => { results := [.lit (.bool true)], args := [d1, d2, d3] }
  | _ => none }
def fnExactCrashDiskRow : OpenClaim := { program := "ytfgjhfoljeaiiaa", sum := "348ca4fda45f0bf3f9573f9781778484fe0348e8900e936792f1b57c3dcaf876", func := "loop.example/g00327/laws.FnExactCrashDisk", spec := "fnExactCrashDisk", apart := false }
def FnExactCrashDiskSaid : Prop := fnExactCrashDiskRow.holds Try.pinned (OpenSpec.ofChange fnExactCrashDiskSpec)

/-- ITS FALSE NEIGHBOUR: 'it returns false'. Refute it at one input. -/
def fnExactCrashDiskWrong : ChangeSpec := { name := "fnExactCrashDisk", fn := fun _ => fun
  | [d1, d2, d3] => { results := [.lit (.bool false)], args := [d1, d2, d3] }
  | _ => none }
def FnExactCrashDiskWrongFalsely : Prop := fnExactCrashDiskRow.holds Try.pinned (OpenSpec.ofChange fnExactCrashDiskWrong)

/- THE SECOND FORM. 'bulk': how many values and letters a reading holds, each counted each time it is reached (what is shared counts as often as it is met; a slice's spare places count too). A statement '..UptoSaid' is the law's where the arguments, and the package variables that the reading takes, are together of bulk at most 1048576: NARROWER than '..Said'. Prove '..Said' where nothing that the law and all that it calls make is longer than what came in: it says more and counts as full. Else prove '..UptoSaid'. A law counts once. -/
mutual
def uptoBulk {H : Type} : DataW H → Nat
  | .lit (.string bytes) => bytes.length + 1
  | .lit _ => 1
  | .nil => 1
  | .ptr d => uptoBulk d + 1
  | .slice elems spare => uptoBulkAll elems + uptoBulkAll spare + 1
  | .agg parts => uptoBulkAll parts + 1
  | .iface _ d => uptoBulk d + 1
  | .map entries => uptoBulkEntries entries + 1
  | .held _ => 1
def uptoBulkAll {H : Type} : List (DataW H) → Nat
  | [] => 0
  | d :: r => uptoBulk d + uptoBulkAll r
def uptoBulkEntries {H : Type} : List (Lit × DataW H) → Nat
  | [] => 0
  | x :: r => uptoBulkEntry x + uptoBulkEntries r
def uptoBulkEntry {H : Type} : Lit × DataW H → Nat
  | (.string bytes, d) => bytes.length + uptoBulk d + 1
  | (_, d) => uptoBulk d + 1
 end
def uptoSmall : (H : Type) → List (DataW H) → Bool := fun _ ds => decide (uptoBulkAll ds ≤ 1048576)
def OpenSpec.upto (s : _root_.Go.ChangeSpec) : _root_.Go.OpenSpec := { _root_.Go.OpenSpec.ofChange s with cond := some uptoSmall }

/-- 'laws.FnExactReadSector', WHERE WHAT IT READS IS OF BULK AT MOST 1048576: true; the input reads as it did. -/
def fnExactReadSectorUptoRow : OpenClaim := { program := "ytfgjhfoljeaiiaa", sum := "348ca4fda45f0bf3f9573f9781778484fe0348e8900e936792f1b57c3dcaf876", func := "loop.example/g00327/laws.FnExactReadSector", spec := "fnExactReadSector", apart := false, narrowed := true }
def FnExactReadSectorUptoSaid : Prop := fnExactReadSectorUptoRow.holds Try.pinned (OpenSpec.upto fnExactReadSectorSpec)

/-- 'laws.FnExactDiskOk', WHERE WHAT IT READS IS OF BULK AT MOST 1048576: true; the input reads as it did. -/
def fnExactDiskOkUptoRow : OpenClaim := { program := "ytfgjhfoljeaiiaa", sum := "348ca4fda45f0bf3f9573f9781778484fe0348e8900e936792f1b57c3dcaf876", func := "loop.example/g00327/laws.FnExactDiskOk", spec := "fnExactDiskOk", apart := false, narrowed := true }
def FnExactDiskOkUptoSaid : Prop := fnExactDiskOkUptoRow.holds Try.pinned (OpenSpec.upto fnExactDiskOkSpec)

/-- 'laws.FnExactActiveOf', WHERE WHAT IT READS IS OF BULK AT MOST 1048576: true; the input reads as it did. -/
def fnExactActiveOfUptoRow : OpenClaim := { program := "ytfgjhfoljeaiiaa", sum := "348ca4fda45f0bf3f9573f9781778484fe0348e8900e936792f1b57c3dcaf876", func := "loop.example/g00327/laws.FnExactActiveOf", spec := "fnExactActiveOf", apart := false, narrowed := true }
def FnExactActiveOfUptoSaid : Prop := fnExactActiveOfUptoRow.holds Try.pinned (OpenSpec.upto fnExactActiveOfSpec)

/-- 'laws.FnExactSectorText', WHERE WHAT IT READS IS OF BULK AT MOST 1048576: true; the input reads as it did. -/
def fnExactSectorTextUptoRow : OpenClaim := { program := "ytfgjhfoljeaiiaa", sum := "348ca4fda45f0bf3f9573f9781778484fe0348e8900e936792f1b57c3dcaf876", func := "loop.example/g00327/laws.FnExactSectorText", spec := "fnExactSectorText", apart := false, narrowed := true }
def FnExactSectorTextUptoSaid : Prop := fnExactSectorTextUptoRow.holds Try.pinned (OpenSpec.upto fnExactSectorTextSpec)

/-- 'laws.FnExactCountIn', WHERE WHAT IT READS IS OF BULK AT MOST 1048576: true; the input reads as it did. -/
def fnExactCountInUptoRow : OpenClaim := { program := "ytfgjhfoljeaiiaa", sum := "348ca4fda45f0bf3f9573f9781778484fe0348e8900e936792f1b57c3dcaf876", func := "loop.example/g00327/laws.FnExactCountIn", spec := "fnExactCountIn", apart := false, narrowed := true }
def FnExactCountInUptoSaid : Prop := fnExactCountInUptoRow.holds Try.pinned (OpenSpec.upto fnExactCountInSpec)

/-- 'laws.FnSectors', WHERE WHAT IT READS IS OF BULK AT MOST 1048576: true; the input reads as it did. -/
def fnSectorsUptoRow : OpenClaim := { program := "ytfgjhfoljeaiiaa", sum := "348ca4fda45f0bf3f9573f9781778484fe0348e8900e936792f1b57c3dcaf876", func := "loop.example/g00327/laws.FnSectors", spec := "fnSectors", apart := false, narrowed := true }
def FnSectorsUptoSaid : Prop := fnSectorsUptoRow.holds Try.pinned (OpenSpec.upto fnSectorsSpec)

/-- 'laws.FnTorn', WHERE WHAT IT READS IS OF BULK AT MOST 1048576: true; the input reads as it did. -/
def fnTornUptoRow : OpenClaim := { program := "ytfgjhfoljeaiiaa", sum := "348ca4fda45f0bf3f9573f9781778484fe0348e8900e936792f1b57c3dcaf876", func := "loop.example/g00327/laws.FnTorn", spec := "fnTorn", apart := false, narrowed := true }
def FnTornUptoSaid : Prop := fnTornUptoRow.holds Try.pinned (OpenSpec.upto fnTornSpec)

/-- 'laws.FnExactWriteSector', WHERE WHAT IT READS IS OF BULK AT MOST 1048576: true; the input reads as it did. -/
def fnExactWriteSectorUptoRow : OpenClaim := { program := "ytfgjhfoljeaiiaa", sum := "348ca4fda45f0bf3f9573f9781778484fe0348e8900e936792f1b57c3dcaf876", func := "loop.example/g00327/laws.FnExactWriteSector", spec := "fnExactWriteSector", apart := false, narrowed := true }
def FnExactWriteSectorUptoSaid : Prop := fnExactWriteSectorUptoRow.holds Try.pinned (OpenSpec.upto fnExactWriteSectorSpec)

/-- 'laws.FnExactFlushDisk', WHERE WHAT IT READS IS OF BULK AT MOST 1048576: true; the input reads as it did. -/
def fnExactFlushDiskUptoRow : OpenClaim := { program := "ytfgjhfoljeaiiaa", sum := "348ca4fda45f0bf3f9573f9781778484fe0348e8900e936792f1b57c3dcaf876", func := "loop.example/g00327/laws.FnExactFlushDisk", spec := "fnExactFlushDisk", apart := false, narrowed := true }
def FnExactFlushDiskUptoSaid : Prop := fnExactFlushDiskUptoRow.holds Try.pinned (OpenSpec.upto fnExactFlushDiskSpec)

/-- 'laws.FnExactDiskNew', WHERE WHAT IT READS IS OF BULK AT MOST 1048576: true; the input reads as it did. -/
def fnExactDiskNewUptoRow : OpenClaim := { program := "ytfgjhfoljeaiiaa", sum := "348ca4fda45f0bf3f9573f9781778484fe0348e8900e936792f1b57c3dcaf876", func := "loop.example/g00327/laws.FnExactDiskNew", spec := "fnExactDiskNew", inPlace := ["internal/abi.NoEscape", "internal/bytealg.MakeNoZero"], apart := false, narrowed := true }
def FnExactDiskNewUptoSaid : Prop := fnExactDiskNewUptoRow.holds Try.pinned (OpenSpec.upto fnExactDiskNewSpec)

/-- 'laws.FnCrashes', WHERE WHAT IT READS IS OF BULK AT MOST 1048576: true; the input reads as it did. -/
def fnCrashesUptoRow : OpenClaim := { program := "ytfgjhfoljeaiiaa", sum := "348ca4fda45f0bf3f9573f9781778484fe0348e8900e936792f1b57c3dcaf876", func := "loop.example/g00327/laws.FnCrashes", spec := "fnCrashes", apart := false, narrowed := true }
def FnCrashesUptoSaid : Prop := fnCrashesUptoRow.holds Try.pinned (OpenSpec.upto fnCrashesSpec)

/-- 'laws.FnExactCrashDisk', WHERE WHAT IT READS IS OF BULK AT MOST 1048576: true; the input reads as it did. -/
def fnExactCrashDiskUptoRow : OpenClaim := { program := "ytfgjhfoljeaiiaa", sum := "348ca4fda45f0bf3f9573f9781778484fe0348e8900e936792f1b57c3dcaf876", func := "loop.example/g00327/laws.FnExactCrashDisk", spec := "fnExactCrashDisk", apart := false, narrowed := true }
def FnExactCrashDiskUptoSaid : Prop := fnExactCrashDiskUptoRow.holds Try.pinned (OpenSpec.upto fnExactCrashDiskSpec)

end Rows
end Go.Proofs.Ytfgjhfoljeaiiaa
