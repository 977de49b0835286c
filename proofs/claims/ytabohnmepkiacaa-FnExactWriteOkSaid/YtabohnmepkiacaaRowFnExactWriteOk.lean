/- The row of the law FnExactWriteOk: at every input the call answers true, and each argument reads as before. Conditions: the row's own. -/
import Derived.Test.YtabohnmepkiacaaRows
import Derived.Test.YtabohnmepkiacaaQFnExactWriteOkx1
import Derived.Test.YtabohnmepkiacaaPureFnExactWriteOk
import Derived.Test.YtabohnmepkiacaaRowAid
import Derived.WalkKit
import Derived.ProofKit
import Derived.OpenShut
import Derived.ShutString
import Derived.ChangeOld
import Derived.Below
import Derived.SizedLaws
import Derived.Carry
import Derived.Lib.SmallJoins
namespace Go.Proofs.Ytabohnmepkiacaa.fnExactWriteOk
open Go.ChangeShapes Go.WideShapes Go.ChangeAt Go.RowKit
open Go.ChangeMaps (open_string shut_string)
open Go.Joins (open_agg2 open_agg3 open_agg4)
open Go.Proofs.YtabohnmepkiacaaW.PrintWords Go.Proofs.Ytabohnmepkiacaa.RowAid Go.Proofs.Ytabohnmepkiacaa.QFnExactWriteOk
set_option linter.unusedVariables false
set_option linter.unusedSimpArgs false
theorem own : ownKnob Try.prog.godebug = none := by kernel_rfl
theorem laidOut : laidOutB Try.prog = true := by kernel_rfl
set_option maxRecDepth 100000 in
theorem lifted (os : Os) (started : os.Started) (H : Type) (enc : TypeId × Value → H) :
    ReturnsInHanded {} Try.checked os 13 .any (Rows.fnExactWriteOkSpec.pre6 enc Try.prog Try.f13 Rows.fnExactWriteOkRow.domain false) (Rows.fnExactWriteOkSpec.post enc Try.prog Try.f13 false true false false) := by
  refine returnsInHanded_of_change_sized (C := Try.checked) own started (by kernel_rfl) Try.func13
    (ChangeSpec.witness6 (enc := enc) (C := Try.checked) false ⟨#[], #[.agg #[.string ByteArray.empty, .string ByteArray.empty, .bool false]], []⟩ 8 (by kernel_rfl) (by kernel_rfl) (by kernel_rfl) (by kernel_rfl)) ?_
  intro W base args ds gs before hval0 hW hcnd hsz0 _
  have hval : ∀ (j : Nat) t v, Try.f13.params[j]? = some t → args[j]? = some v → Value.okWide Try.prog W .any base t v := hval0
  have hW' := hW
  obtain ⟨p, q, hA0, hV, rfl, hfz, hnd⟩ := hW
  have hA : DataW.TrodAll enc Try.prog W 0 (fun _ => true) true Try.f13.params.toList args.toList ds p := hA0
  rw [Try.params13] at hA hval
  obtain ⟨v0, vs0, d0, ds0, p0, q0, hargs, rfl, rfl, h0, r0⟩ := trodAll_cons hA
  obtain ⟨rfl, rfl, rfl⟩ := trodAll_nil r0
  obtain rfl : args = #[v0] := by cases args; simp_all
  obtain ⟨rfl, rfl⟩ := trodVars_none hV
  have k0 := h0
  have lt0 : ∀ x ∈ p0, x.block < W.heap.size := by obtain ⟨m, hm⟩ := k0; exact DataW.trod_lt m _ _ _ hm
  obtain ⟨u0_0, u0_1, u0_2, z0_0, z0_1, z0_2, m0, rfl, e0a, e0b, g0_0, g0_1, g0_2⟩ := open_agg3 Try.underlying43 (by kernel_rfl) (by kernel_rfl) (hval 0 43 v0 rfl rfl) h0
  clear e0a e0b
  obtain ⟨a0_0, rfl, w0_0⟩ := open_str1 Try.underlying9 g0_0
  obtain ⟨a0_1, rfl, w0_1⟩ := open_str1 Try.underlying9 g0_1
  obtain ⟨a0_2, rfl⟩ := open_bool1 Try.underlying4 g0_2
  clear hA0 hval0 hsz0
  obtain ⟨k, h⟩ := Pure.FnExactWriteOk a0_0 a0_1 a0_2 w0_0 w0_1
  refine (laws_FnExactWriteOk.calls k a0_0 a0_1 a0_2 true W  h).mono fun e W' hh => ?_
  obtain ⟨he, bel0⟩ := hh
  have bel : Below W.heap.size W W' := bel0
  subst he
  exact ⟨_, rfl, _, _, _, [], _, [], hW', trodAll_mk1 (shut_bool Try.underlying4 _), (trodAll_cons_mk (Below.trod laidOut (by kernel_rfl) (of_decide_eq_true (by kernel_rfl)) k0 bel lt0) trodAll_mk0), rfl, bel.frame _, fun h => by cases h⟩
theorem over : Rows.fnExactWriteOkRow.holds Try.pinned (OpenSpec.ofChange Rows.fnExactWriteOkSpec) :=
  OpenClaim.holds_of_wide 13 Try.f13 rfl rfl rfl rfl rfl rfl rfl ⟨rfl, rfl, rfl, rfl, rfl⟩ rfl rfl rfl rfl rfl (by kernel_rfl) Try.func13 (by kernel_rfl)
    (of_decide_eq_true (by kernel_rfl)) (by unfold Func.isWrapper; first | (rw [if_pos (by decide +kernel)]; kernel_rfl) | (rw [if_neg (by decide +kernel)]; exact ⟨rfl, rfl⟩))
    (fun os started H enc _ => lifted os started H enc)
theorem proved : Rows.FnExactWriteOkSaid := over
#print axioms proved
end Go.Proofs.Ytabohnmepkiacaa.fnExactWriteOk
namespace Go.Proofs.Ytabohnmepkiacaa
/-- The row, under a short name, for the claim. -/
theorem fnExactWriteOk_holds : Rows.FnExactWriteOkSaid := fnExactWriteOk.proved
end Go.Proofs.Ytabohnmepkiacaa
