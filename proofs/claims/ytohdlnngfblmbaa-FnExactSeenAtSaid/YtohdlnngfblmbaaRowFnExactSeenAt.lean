/- The row of the law FnExactSeenAt: at every input the call answers true, and each argument reads as before. Conditions: the row's own. -/
import Derived.Test.YtohdlnngfblmbaaRows
import Derived.Test.YtohdlnngfblmbaaQFnExactSeenAtx2
import Derived.Test.YtohdlnngfblmbaaPureFnExactSeenAt
import Derived.Test.YtohdlnngfblmbaaRowAid
import Derived.WalkKit
import Derived.ProofKit
import Derived.OpenShut
import Derived.ShutString
import Derived.ChangeOld
import Derived.Below
import Derived.SizedLaws
import Derived.Carry
import Derived.Lib.SmallJoins
namespace Go.Proofs.Ytohdlnngfblmbaa.fnExactSeenAt
open Go.ChangeShapes Go.WideShapes Go.ChangeAt Go.RowKit
open Go.ChangeMaps (open_string shut_string)
open Go.Joins (open_agg2 open_agg3 open_agg4)
open Go.Proofs.YtohdlnngfblmbaaW.PrintWords Go.Proofs.Ytohdlnngfblmbaa.RowAid Go.Proofs.Ytohdlnngfblmbaa.QFnExactSeenAt
set_option linter.unusedVariables false
set_option linter.unusedSimpArgs false
theorem own : ownKnob Try.prog.godebug = none := by kernel_rfl
theorem laidOut : laidOutB Try.prog = true := by kernel_rfl
theorem opens99 {H : Type} {enc : TypeId × Value → H} {w : World} {base : Nat} {spare : Nat → Bool} {held : Bool} : Opens enc Try.prog w base spare held 99 k99 (fun x : S99 => x.f0.size ≤ 9223372036854775807 ∧ x.f1.size ≤ 9223372036854775807 ∧ (Lit.int .i64 x.f3).wf = true) := by
  refine ⟨by kernel_rfl, fun n cs y h => ?_⟩
  obtain ⟨xs, m, _, _, hl, hxl, hf⟩ := DataW.trod_struct Try.underlying99 h
  have hl2 : cs.length = 4 := hl.trans (by kernel_rfl)
  obtain ⟨c0, c1, c2, c3, rfl⟩ := list4 hl2
  obtain ⟨y0, y1, y2, y3, rfl⟩ := list4 (show xs.length = 4 from hxl)
  have e0 : Try.prog.cellsOf 9 = 1 := by kernel_rfl
  have g0 : DataW.trod enc Try.prog w base spare held m 9 (([c0, c1, c2, c3].drop 0).take (Try.prog.cellsOf 9)) = [y0, y1, y2, y3][0]? := hf 0 _ rfl
  rw [e0] at g0
  replace g0 : DataW.trod enc Try.prog w base spare held m 9 [c0] = some y0 := g0
  have e1 : Try.prog.cellsOf 9 = 1 := by kernel_rfl
  have g1 : DataW.trod enc Try.prog w base spare held m 9 (([c0, c1, c2, c3].drop 1).take (Try.prog.cellsOf 9)) = [y0, y1, y2, y3][1]? := hf 1 _ rfl
  rw [e1] at g1
  replace g1 : DataW.trod enc Try.prog w base spare held m 9 [c1] = some y1 := g1
  have e2 : Try.prog.cellsOf 4 = 1 := by kernel_rfl
  have g2 : DataW.trod enc Try.prog w base spare held m 4 (([c0, c1, c2, c3].drop 2).take (Try.prog.cellsOf 4)) = [y0, y1, y2, y3][2]? := hf 2 _ rfl
  rw [e2] at g2
  replace g2 : DataW.trod enc Try.prog w base spare held m 4 [c2] = some y2 := g2
  have e3 : Try.prog.cellsOf 3 = 1 := by kernel_rfl
  have g3 : DataW.trod enc Try.prog w base spare held m 3 (([c0, c1, c2, c3].drop 3).take (Try.prog.cellsOf 3)) = [y0, y1, y2, y3][3]? := hf 3 _ rfl
  rw [e3] at g3
  replace g3 : DataW.trod enc Try.prog w base spare held m 3 [c3] = some y3 := g3
  obtain ⟨x0, rfl, q0⟩ := open_str1 Try.underlying9 g0
  obtain ⟨x1, rfl, q1⟩ := open_str1 Try.underlying9 g1
  obtain ⟨x2, rfl⟩ := open_bool1 Try.underlying4 g2
  obtain ⟨x3, rfl, q3⟩ := open_int1 Try.underlying3 g3
  exact ⟨⟨x0, x1, x2, x3⟩, k99_mk _ _, q0, q1, q3⟩
set_option maxRecDepth 100000 in
theorem lifted (os : Os) (started : os.Started) (H : Type) (enc : TypeId × Value → H) :
    ReturnsInHanded {} Try.checked os 9 .any (Rows.fnExactSeenAtSpec.pre6 enc Try.prog Try.f9 Rows.fnExactSeenAtRow.domain false) (Rows.fnExactSeenAtSpec.post enc Try.prog Try.f9 false true false false) := by
  refine returnsInHanded_of_change_sized (C := Try.checked) own started (by kernel_rfl) Try.func9
    (ChangeSpec.witness6 (enc := enc) (C := Try.checked) false ⟨#[], #[.slice none 0 0, .string ByteArray.empty, .int .i64 0], []⟩ 8 (by kernel_rfl) (by kernel_rfl) (by kernel_rfl) (by kernel_rfl)) ?_
  intro W base args ds gs before hval0 hW hcnd hsz0 _
  have hval : ∀ (j : Nat) t v, Try.f9.params[j]? = some t → args[j]? = some v → Value.okWide Try.prog W .any base t v := hval0
  have hW' := hW
  obtain ⟨p, q, hA0, hV, rfl, hfz, hnd⟩ := hW
  have hA : DataW.TrodAll enc Try.prog W 0 (fun _ => true) true Try.f9.params.toList args.toList ds p := hA0
  rw [Try.params9] at hA hval
  obtain ⟨v0, vs0, d0, ds0, p0, q0, hargs, rfl, rfl, h0, r0⟩ := trodAll_cons hA
  obtain ⟨v1, vs1, d1, ds1, p1, q1, rfl, rfl, rfl, h1, r1⟩ := trodAll_cons r0
  obtain ⟨v2, vs2, d2, ds2, p2, q2, rfl, rfl, rfl, h2, r2⟩ := trodAll_cons r1
  obtain ⟨rfl, rfl, rfl⟩ := trodAll_nil r2
  obtain rfl : args = #[v0, v1, v2] := by cases args; simp_all
  obtain ⟨rfl, rfl⟩ := trodVars_none hV
  have k0 := h0
  have lt0 : ∀ x ∈ p0, x.block < W.heap.size := by obtain ⟨m, hm⟩ := k0; exact DataW.trod_lt m _ _ _ hm
  obtain ⟨A0, c0, l0, rfl, hr0, hc0, hn0, hq0⟩ := open_rowsV Try.underlying44 opens99 (hval 0 44 v0 rfl rfl) h0
  obtain ⟨a1, rfl, rfl, rfl, y1⟩ := open_string Try.underlying9 (hval 1 9 v1 rfl rfl) h1
  have w1 : a1.size ≤ 9223372036854775807 := by unfold maxLen at y1; omega
  obtain ⟨a2, rfl, rfl, rfl, w2⟩ := open_int Try.underlying3 (hval 2 3 v2 rfl rfl) h2
  clear hA0 hval0 hsz0
  obtain ⟨k, h⟩ := Pure.FnExactSeenAt l0 a1 a2 hn0 hq0 w1 w2
  refine (laws_FnExactSeenAt.calls k A0 c0 l0 a1 a2 true W hr0 hc0 rfl h).mono fun e W' hh => ?_
  obtain ⟨he, bel0⟩ := hh
  have bel : Below W.heap.size W W' := bel0
  subst he
  exact ⟨_, rfl, _, _, _, [], _, [], hW', trodAll_mk1 (shut_bool Try.underlying4 _), (trodAll_cons_mk (Below.trod laidOut (by kernel_rfl) (of_decide_eq_true (by kernel_rfl)) k0 bel lt0) (trodAll_cons_mk (shut_string Try.underlying9 y1) (trodAll_cons_mk (shut_int Try.underlying3 w2) trodAll_mk0))), rfl, bel.frame _, fun h => by cases h⟩
theorem over : Rows.fnExactSeenAtRow.holds Try.pinned (OpenSpec.ofChange Rows.fnExactSeenAtSpec) :=
  OpenClaim.holds_of_wide 9 Try.f9 rfl rfl rfl rfl rfl rfl rfl ⟨rfl, rfl, rfl, rfl, rfl⟩ rfl rfl rfl rfl rfl (by kernel_rfl) Try.func9 (by kernel_rfl)
    (of_decide_eq_true (by kernel_rfl)) (by unfold Func.isWrapper; first | (rw [if_pos (by decide +kernel)]; kernel_rfl) | (rw [if_neg (by decide +kernel)]; exact ⟨rfl, rfl⟩))
    (fun os started H enc _ => lifted os started H enc)
theorem proved : Rows.FnExactSeenAtSaid := over
#print axioms proved
end Go.Proofs.Ytohdlnngfblmbaa.fnExactSeenAt
namespace Go.Proofs.Ytohdlnngfblmbaa
/-- The row, under a short name, for the claim. -/
theorem fnExactSeenAt_holds : Rows.FnExactSeenAtSaid := fnExactSeenAt.proved
end Go.Proofs.Ytohdlnngfblmbaa
