/- The row of the law FnExactSwitchLog: at every input the call answers true, and each argument reads as before. Conditions: the row's own. -/
import Derived.Test.YtjnghaajmdaggaaRows
import Derived.Test.YtjnghaajmdaggaaQFnExactSwitchLogx23
import Derived.Test.YtjnghaajmdaggaaPureFnExactSwitchLog
import Derived.Test.YtjnghaajmdaggaaRowAid
import Derived.WalkKit
import Derived.ProofKit
import Derived.OpenShut
import Derived.ShutString
import Derived.ChangeOld
import Derived.Below
import Derived.SizedLaws
import Derived.Carry
import Derived.Lib.SmallJoins
namespace Go.Proofs.Ytjnghaajmdaggaa.fnExactSwitchLog
open Go.ChangeShapes Go.WideShapes Go.ChangeAt Go.RowKit
open Go.ChangeMaps (open_string shut_string)
open Go.Joins (open_agg2 open_agg3 open_agg4)
open Go.Proofs.YtjnghaajmdaggaaW.PrintWords Go.Proofs.Ytjnghaajmdaggaa.RowAid Go.Proofs.Ytjnghaajmdaggaa.QFnExactSwitchLog
set_option linter.unusedVariables false
set_option linter.unusedSimpArgs false
theorem own : ownKnob Try.prog.godebug = none := by kernel_rfl
theorem laidOut : laidOutB Try.prog = true := by kernel_rfl
theorem opens84 {H : Type} {enc : TypeId × Value → H} {w : World} {base : Nat} {spare : Nat → Bool} {held : Bool} : Opens enc Try.prog w base spare held 84 k84 (fun x : S84 => (Lit.int .i64 x.f0).wf = true ∧ x.f1.size ≤ 9223372036854775807) := by
  refine ⟨by kernel_rfl, fun n cs y h => ?_⟩
  obtain ⟨xs, m, _, _, hl, hxl, hf⟩ := DataW.trod_struct Try.underlying84 h
  have hl2 : cs.length = 2 := hl.trans (by kernel_rfl)
  obtain ⟨c0, c1, rfl⟩ := list2 hl2
  obtain ⟨y0, y1, rfl⟩ := list2 (show xs.length = 2 from hxl)
  have e0 : Try.prog.cellsOf 3 = 1 := by kernel_rfl
  have g0 : DataW.trod enc Try.prog w base spare held m 3 (([c0, c1].drop 0).take (Try.prog.cellsOf 3)) = [y0, y1][0]? := hf 0 _ rfl
  rw [e0] at g0
  replace g0 : DataW.trod enc Try.prog w base spare held m 3 [c0] = some y0 := g0
  have e1 : Try.prog.cellsOf 9 = 1 := by kernel_rfl
  have g1 : DataW.trod enc Try.prog w base spare held m 9 (([c0, c1].drop 1).take (Try.prog.cellsOf 9)) = [y0, y1][1]? := hf 1 _ rfl
  rw [e1] at g1
  replace g1 : DataW.trod enc Try.prog w base spare held m 9 [c1] = some y1 := g1
  obtain ⟨x0, rfl, q0⟩ := open_int1 Try.underlying3 g0
  obtain ⟨x1, rfl, q1⟩ := open_str1 Try.underlying9 g1
  exact ⟨⟨x0, x1⟩, k84_mk _ _, q0, q1⟩
set_option maxRecDepth 100000 in
theorem lifted (os : Os) (started : os.Started) (H : Type) (enc : TypeId × Value → H) :
    ReturnsInHanded {} Try.checked os 3 .any (Rows.fnExactSwitchLogSpec.pre6 enc Try.prog Try.f3 Rows.fnExactSwitchLogRow.domain false) (Rows.fnExactSwitchLogSpec.post enc Try.prog Try.f3 false true false false) := by
  refine returnsInHanded_of_change_sized (C := Try.checked) own started (by kernel_rfl) Try.func3
    (ChangeSpec.witness6 (enc := enc) (C := Try.checked) false ⟨#[], #[.agg #[.slice none 0 0, .slice none 0 0], .slice none 0 0], []⟩ 8 (by kernel_rfl) (by kernel_rfl) (by kernel_rfl) (by kernel_rfl)) ?_
  intro W base args ds gs before hval0 hW hcnd hsz0 _
  have hval : ∀ (j : Nat) t v, Try.f3.params[j]? = some t → args[j]? = some v → Value.okWide Try.prog W .any base t v := hval0
  have hW' := hW
  obtain ⟨p, q, hA0, hV, rfl, hfz, hnd⟩ := hW
  have hA : DataW.TrodAll enc Try.prog W 0 (fun _ => true) true Try.f3.params.toList args.toList ds p := hA0
  rw [Try.params3] at hA hval
  obtain ⟨v0, vs0, d0, ds0, p0, q0, hargs, rfl, rfl, h0, r0⟩ := trodAll_cons hA
  obtain ⟨v1, vs1, d1, ds1, p1, q1, rfl, rfl, rfl, h1, r1⟩ := trodAll_cons r0
  obtain ⟨rfl, rfl, rfl⟩ := trodAll_nil r1
  obtain rfl : args = #[v0, v1] := by cases args; simp_all
  obtain ⟨rfl, rfl⟩ := trodVars_none hV
  have k0 := h0
  have lt0 : ∀ x ∈ p0, x.block < W.heap.size := by obtain ⟨m, hm⟩ := k0; exact DataW.trod_lt m _ _ _ hm
  obtain ⟨u0_0, u0_1, z0_0, z0_1, m0, rfl, e0a, e0b, g0_0, g0_1⟩ := open_agg2 Try.underlying25 (by kernel_rfl) (by kernel_rfl) (hval 0 25 v0 rfl rfl) h0
  clear e0a e0b
  obtain ⟨A0_0, c0_0, l0_0, rfl, hr0_0, hc0_0, hn0_0, hq0_0⟩ := open_rows1 Try.underlying22 (opens_string Try.underlying9 (by kernel_rfl)) g0_0
  obtain ⟨A0_1, c0_1, l0_1, rfl, hr0_1, hc0_1, hn0_1, hq0_1⟩ := open_rows1 Try.underlying23 opens84 g0_1
  have k1 := h1
  have lt1 : ∀ x ∈ p1, x.block < W.heap.size := by obtain ⟨m, hm⟩ := k1; exact DataW.trod_lt m _ _ _ hm
  obtain ⟨A1, c1, l1, rfl, hr1, hc1, hn1, hq1⟩ := open_rowsV Try.underlying22 (opens_string Try.underlying9 (by kernel_rfl)) (hval 1 22 v1 rfl rfl) h1
  clear hA0 hval0 hsz0
  obtain ⟨k, h⟩ := Pure.FnExactSwitchLog l0_0 l0_1 l1 hn0_0 hq0_0 hn0_1 hq0_1 hn1 hq1
  refine (laws_FnExactSwitchLog.calls k A0_0 c0_0 l0_0 A0_1 c0_1 l0_1 A1 c1 l1 true W hr0_0 hc0_0 hr0_1 hc0_1 hr1 hc1 rfl h).mono fun e W' hh => ?_
  obtain ⟨he, bel0⟩ := hh
  have bel : Below W.heap.size W W' := bel0
  subst he
  exact ⟨_, rfl, _, _, _, [], _, [], hW', trodAll_mk1 (shut_bool Try.underlying4 _), (trodAll_cons_mk (Below.trod laidOut (by kernel_rfl) (of_decide_eq_true (by kernel_rfl)) k0 bel lt0) (trodAll_cons_mk (Below.trod laidOut (by kernel_rfl) (of_decide_eq_true (by kernel_rfl)) k1 bel lt1) trodAll_mk0)), rfl, bel.frame _, fun h => by cases h⟩
theorem over : Rows.fnExactSwitchLogRow.holds Try.pinned (OpenSpec.ofChange Rows.fnExactSwitchLogSpec) :=
  OpenClaim.holds_of_wide 3 Try.f3 rfl rfl rfl rfl rfl rfl rfl ⟨rfl, rfl, rfl, rfl, rfl⟩ rfl rfl rfl rfl rfl (by kernel_rfl) Try.func3 (by kernel_rfl)
    (of_decide_eq_true (by kernel_rfl)) (by unfold Func.isWrapper; first | (rw [if_pos (by decide +kernel)]; kernel_rfl) | (rw [if_neg (by decide +kernel)]; exact ⟨rfl, rfl⟩))
    (fun os started H enc _ => lifted os started H enc)
theorem proved : Rows.FnExactSwitchLogSaid := over
#print axioms proved
end Go.Proofs.Ytjnghaajmdaggaa.fnExactSwitchLog
namespace Go.Proofs.Ytjnghaajmdaggaa
/-- The row, under a short name, for the claim. -/
theorem fnExactSwitchLog_holds : Rows.FnExactSwitchLogSaid := fnExactSwitchLog.proved
end Go.Proofs.Ytjnghaajmdaggaa
