/- The row of the law FnExactRangeOk: at every input the call answers true, and each argument reads as before. Conditions: the row's own. -/
import Derived.Test.YtabohnmepkiacaaRows
import Derived.Test.YtabohnmepkiacaaQFnExactRangeOkx1
import Derived.Test.YtabohnmepkiacaaPureFnExactRangeOk
import Derived.Test.YtabohnmepkiacaaRowAid
import Derived.WalkKit
import Derived.ProofKit
import Derived.OpenShut
import Derived.ShutString
import Derived.ChangeOld
import Derived.Below
import Derived.SizedLaws
import Derived.Carry
import Derived.Lib.SmallJoins
namespace Go.Proofs.Ytabohnmepkiacaa.fnExactRangeOk
open Go.ChangeShapes Go.WideShapes Go.ChangeAt Go.RowKit
open Go.ChangeMaps (open_string shut_string)
open Go.Joins (open_agg2 open_agg3 open_agg4)
open Go.Proofs.YtabohnmepkiacaaW.PrintWords Go.Proofs.Ytabohnmepkiacaa.RowAid Go.Proofs.Ytabohnmepkiacaa.QFnExactRangeOk
set_option linter.unusedVariables false
set_option linter.unusedSimpArgs false
theorem own : ownKnob Try.prog.godebug = none := by kernel_rfl
theorem laidOut : laidOutB Try.prog = true := by kernel_rfl
set_option maxRecDepth 100000 in
theorem lifted (os : Os) (started : os.Started) (H : Type) (enc : TypeId × Value → H) :
    ReturnsInHanded {} Try.checked os 12 .any (Rows.fnExactRangeOkSpec.pre6 enc Try.prog Try.f12 Rows.fnExactRangeOkRow.domain false) (Rows.fnExactRangeOkSpec.post enc Try.prog Try.f12 false true false false) := by
  refine returnsInHanded_of_change_sized (C := Try.checked) own started (by kernel_rfl) Try.func12
    (ChangeSpec.witness6 (enc := enc) (C := Try.checked) false ⟨#[], #[.agg #[.string ByteArray.empty, .string ByteArray.empty]], []⟩ 8 (by kernel_rfl) (by kernel_rfl) (by kernel_rfl) (by kernel_rfl)) ?_
  intro W base args ds gs before hval0 hW hcnd hsz0 _
  have hval : ∀ (j : Nat) t v, Try.f12.params[j]? = some t → args[j]? = some v → Value.okWide Try.prog W .any base t v := hval0
  have hW' := hW
  obtain ⟨p, q, hA0, hV, rfl, hfz, hnd⟩ := hW
  have hA : DataW.TrodAll enc Try.prog W 0 (fun _ => true) true Try.f12.params.toList args.toList ds p := hA0
  rw [Try.params12] at hA hval
  obtain ⟨v0, vs0, d0, ds0, p0, q0, hargs, rfl, rfl, h0, r0⟩ := trodAll_cons hA
  obtain ⟨rfl, rfl, rfl⟩ := trodAll_nil r0
  obtain rfl : args = #[v0] := by cases args; simp_all
  obtain ⟨rfl, rfl⟩ := trodVars_none hV
  have k0 := h0
  have lt0 : ∀ x ∈ p0, x.block < W.heap.size := by obtain ⟨m, hm⟩ := k0; exact DataW.trod_lt m _ _ _ hm
  obtain ⟨u0_0, u0_1, z0_0, z0_1, m0, rfl, e0a, e0b, g0_0, g0_1⟩ := open_agg2 Try.underlying27 (by kernel_rfl) (by kernel_rfl) (hval 0 27 v0 rfl rfl) h0
  clear e0a e0b
  obtain ⟨a0_0, rfl, w0_0⟩ := open_str1 Try.underlying9 g0_0
  obtain ⟨a0_1, rfl, w0_1⟩ := open_str1 Try.underlying9 g0_1
  clear hA0 hval0 hsz0
  obtain ⟨k, h⟩ := Pure.FnExactRangeOk a0_0 a0_1 w0_0 w0_1
  refine (laws_FnExactRangeOk.calls k a0_0 a0_1 true W  h).mono fun e W' hh => ?_
  obtain ⟨he, bel0⟩ := hh
  have bel : Below W.heap.size W W' := bel0
  subst he
  exact ⟨_, rfl, _, _, _, [], _, [], hW', trodAll_mk1 (shut_bool Try.underlying4 _), (trodAll_cons_mk (Below.trod laidOut (by kernel_rfl) (of_decide_eq_true (by kernel_rfl)) k0 bel lt0) trodAll_mk0), rfl, bel.frame _, fun h => by cases h⟩
theorem over : Rows.fnExactRangeOkRow.holds Try.pinned (OpenSpec.ofChange Rows.fnExactRangeOkSpec) :=
  OpenClaim.holds_of_wide 12 Try.f12 rfl rfl rfl rfl rfl rfl rfl ⟨rfl, rfl, rfl, rfl, rfl⟩ rfl rfl rfl rfl rfl (by kernel_rfl) Try.func12 (by kernel_rfl)
    (of_decide_eq_true (by kernel_rfl)) (by unfold Func.isWrapper; first | (rw [if_pos (by decide +kernel)]; kernel_rfl) | (rw [if_neg (by decide +kernel)]; exact ⟨rfl, rfl⟩))
    (fun os started H enc _ => lifted os started H enc)
theorem proved : Rows.FnExactRangeOkSaid := over
#print axioms proved
end Go.Proofs.Ytabohnmepkiacaa.fnExactRangeOk
namespace Go.Proofs.Ytabohnmepkiacaa
/-- The row, under a short name, for the claim. -/
theorem fnExactRangeOk_holds : Rows.FnExactRangeOkSaid := fnExactRangeOk.proved
end Go.Proofs.Ytabohnmepkiacaa
