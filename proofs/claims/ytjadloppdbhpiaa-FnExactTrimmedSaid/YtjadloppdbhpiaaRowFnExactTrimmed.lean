/- The row of the law FnExactTrimmed: at every input the call answers true, and each argument reads as before. Conditions: the row's own. -/
import Derived.Test.YtjadloppdbhpiaaRows
import Derived.Test.YtjadloppdbhpiaaQFnExactTrimmedx6
import Derived.Test.YtjadloppdbhpiaaPureFnExactTrimmed
import Derived.Test.YtjadloppdbhpiaaRowAid
import Derived.WalkKit
import Derived.ProofKit
import Derived.OpenShut
import Derived.ShutString
import Derived.ChangeOld
import Derived.Below
import Derived.SizedLaws
import Derived.Carry
import Derived.Lib.SmallJoins
namespace Go.Proofs.Ytjadloppdbhpiaa.fnExactTrimmed
open Go.ChangeShapes Go.WideShapes Go.ChangeAt Go.RowKit
open Go.ChangeMaps (open_string shut_string)
open Go.Joins (open_agg2 open_agg3 open_agg4)
open Go.Proofs.YtjadloppdbhpiaaW.PrintWords Go.Proofs.Ytjadloppdbhpiaa.RowAid Go.Proofs.Ytjadloppdbhpiaa.QFnExactTrimmed
set_option linter.unusedVariables false
set_option linter.unusedSimpArgs false
theorem own : ownKnob Try.prog.godebug = none := by kernel_rfl
theorem laidOut : laidOutB Try.prog = true := by kernel_rfl
theorem opens65 {H : Type} {enc : TypeId × Value → H} {w : World} {base : Nat} {spare : Nat → Bool} {held : Bool} : Opens enc Try.prog w base spare held 65 k65 (fun x : S65 => x.f0.size ≤ 9223372036854775807 ∧ x.f1.size ≤ 9223372036854775807 ∧ (Lit.int .i64 x.f3).wf = true) := by
  refine ⟨by kernel_rfl, fun n cs y h => ?_⟩
  obtain ⟨xs, m, _, _, hl, hxl, hf⟩ := DataW.trod_struct Try.underlying65 h
  have hl2 : cs.length = 4 := hl.trans (by kernel_rfl)
  obtain ⟨c0, c1, c2, c3, rfl⟩ := list4 hl2
  obtain ⟨y0, y1, y2, y3, rfl⟩ := list4 (show xs.length = 4 from hxl)
  have e0 : Try.prog.cellsOf 9 = 1 := by kernel_rfl
  have g0 : DataW.trod enc Try.prog w base spare held m 9 (([c0, c1, c2, c3].drop 0).take (Try.prog.cellsOf 9)) = [y0, y1, y2, y3][0]? := hf 0 _ rfl
  rw [e0] at g0
  replace g0 : DataW.trod enc Try.prog w base spare held m 9 [c0] = some y0 := g0
  have e1 : Try.prog.cellsOf 9 = 1 := by kernel_rfl
  have g1 : DataW.trod enc Try.prog w base spare held m 9 (([c0, c1, c2, c3].drop 1).take (Try.prog.cellsOf 9)) = [y0, y1, y2, y3][1]? := hf 1 _ rfl
  rw [e1] at g1
  replace g1 : DataW.trod enc Try.prog w base spare held m 9 [c1] = some y1 := g1
  have e2 : Try.prog.cellsOf 4 = 1 := by kernel_rfl
  have g2 : DataW.trod enc Try.prog w base spare held m 4 (([c0, c1, c2, c3].drop 2).take (Try.prog.cellsOf 4)) = [y0, y1, y2, y3][2]? := hf 2 _ rfl
  rw [e2] at g2
  replace g2 : DataW.trod enc Try.prog w base spare held m 4 [c2] = some y2 := g2
  have e3 : Try.prog.cellsOf 3 = 1 := by kernel_rfl
  have g3 : DataW.trod enc Try.prog w base spare held m 3 (([c0, c1, c2, c3].drop 3).take (Try.prog.cellsOf 3)) = [y0, y1, y2, y3][3]? := hf 3 _ rfl
  rw [e3] at g3
  replace g3 : DataW.trod enc Try.prog w base spare held m 3 [c3] = some y3 := g3
  obtain ⟨x0, rfl, q0⟩ := open_str1 Try.underlying9 g0
  obtain ⟨x1, rfl, q1⟩ := open_str1 Try.underlying9 g1
  obtain ⟨x2, rfl⟩ := open_bool1 Try.underlying4 g2
  obtain ⟨x3, rfl, q3⟩ := open_int1 Try.underlying3 g3
  exact ⟨⟨x0, x1, x2, x3⟩, k65_mk _ _, q0, q1, q3⟩
set_option maxRecDepth 100000 in
theorem lifted (os : Os) (started : os.Started) (H : Type) (enc : TypeId × Value → H) :
    ReturnsInHanded {} Try.checked os 4 .any (Rows.fnExactTrimmedSpec.pre6 enc Try.prog Try.f4 Rows.fnExactTrimmedRow.domain false) (Rows.fnExactTrimmedSpec.post enc Try.prog Try.f4 false true false false) := by
  refine returnsInHanded_of_change_sized (C := Try.checked) own started (by kernel_rfl) Try.func4
    (ChangeSpec.witness6 (enc := enc) (C := Try.checked) false ⟨#[], #[.slice none 0 0, .int .i64 0], []⟩ 8 (by kernel_rfl) (by kernel_rfl) (by kernel_rfl) (by kernel_rfl)) ?_
  intro W base args ds gs before hval0 hW hcnd hsz0 _
  have hval : ∀ (j : Nat) t v, Try.f4.params[j]? = some t → args[j]? = some v → Value.okWide Try.prog W .any base t v := hval0
  have hW' := hW
  obtain ⟨p, q, hA0, hV, rfl, hfz, hnd⟩ := hW
  have hA : DataW.TrodAll enc Try.prog W 0 (fun _ => true) true Try.f4.params.toList args.toList ds p := hA0
  rw [Try.params4] at hA hval
  obtain ⟨v0, vs0, d0, ds0, p0, q0, hargs, rfl, rfl, h0, r0⟩ := trodAll_cons hA
  obtain ⟨v1, vs1, d1, ds1, p1, q1, rfl, rfl, rfl, h1, r1⟩ := trodAll_cons r0
  obtain ⟨rfl, rfl, rfl⟩ := trodAll_nil r1
  obtain rfl : args = #[v0, v1] := by cases args; simp_all
  obtain ⟨rfl, rfl⟩ := trodVars_none hV
  have k0 := h0
  have lt0 : ∀ x ∈ p0, x.block < W.heap.size := by obtain ⟨m, hm⟩ := k0; exact DataW.trod_lt m _ _ _ hm
  obtain ⟨A0, c0, l0, rfl, hr0, hc0, hn0, hq0⟩ := open_rowsV Try.underlying32 opens65 (hval 0 32 v0 rfl rfl) h0
  obtain ⟨a1, rfl, rfl, rfl, w1⟩ := open_int Try.underlying3 (hval 1 3 v1 rfl rfl) h1
  clear hA0 hval0 hsz0
  obtain ⟨k, h⟩ := Pure.FnExactTrimmed l0 a1 hn0 hq0 w1
  refine (laws_FnExactTrimmed.calls k A0 c0 l0 a1 true W hr0 hc0 rfl h).mono fun e W' hh => ?_
  obtain ⟨he, bel0⟩ := hh
  have bel : Below W.heap.size W W' := bel0
  subst he
  exact ⟨_, rfl, _, _, _, [], _, [], hW', trodAll_mk1 (shut_bool Try.underlying4 _), (trodAll_cons_mk (Below.trod laidOut (by kernel_rfl) (of_decide_eq_true (by kernel_rfl)) k0 bel lt0) (trodAll_cons_mk (shut_int Try.underlying3 w1) trodAll_mk0)), rfl, bel.frame _, fun h => by cases h⟩
theorem over : Rows.fnExactTrimmedRow.holds Try.pinned (OpenSpec.ofChange Rows.fnExactTrimmedSpec) :=
  OpenClaim.holds_of_wide 4 Try.f4 rfl rfl rfl rfl rfl rfl rfl ⟨rfl, rfl, rfl, rfl, rfl⟩ rfl rfl rfl rfl rfl (by kernel_rfl) Try.func4 (by kernel_rfl)
    (of_decide_eq_true (by kernel_rfl)) (by unfold Func.isWrapper; first | (rw [if_pos (by decide +kernel)]; kernel_rfl) | (rw [if_neg (by decide +kernel)]; exact ⟨rfl, rfl⟩))
    (fun os started H enc _ => lifted os started H enc)
theorem proved : Rows.FnExactTrimmedSaid := over
#print axioms proved
end Go.Proofs.Ytjadloppdbhpiaa.fnExactTrimmed
namespace Go.Proofs.Ytjadloppdbhpiaa
/-- The row, under a short name, for the claim. -/
theorem fnExactTrimmed_holds : Rows.FnExactTrimmedSaid := fnExactTrimmed.proved
end Go.Proofs.Ytjadloppdbhpiaa
