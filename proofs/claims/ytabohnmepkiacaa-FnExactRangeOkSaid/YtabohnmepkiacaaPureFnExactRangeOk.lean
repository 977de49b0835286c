/- The law FnExactRangeOk answers true at every range. Conditions: the sizes as the row gives them. -/
import Derived.Test.YtabohnmepkiacaaQFnExactRangeOkx1
import Derived.Test.YtabohnmepkiacaaAid
namespace Go.Proofs.Ytabohnmepkiacaa.Pure
open Go.RowKit Go.Proofs.Ytabohnmepkiacaa.QFnExactRangeOk Go.Proofs.YtabohnmepkiacaaW.PrintWords Go.Proofs.YtabohnmepkiacaaW.PrintLast Go.Proofs.Ytabohnmepkiacaa.Aid

theorem szRange_ok (a b : ByteArray) (left : Int) (h0 : 0 ≤ left) (h1 : left ≤ 1048576) (ha : a.size ≤ 9223372036854775807) (hb : b.size ≤ 9223372036854775807) :
    ∃ t, laws_szRange.f a b left = some t ∧ (t < 0 ∨ (0 ≤ t ∧ (a.size : Int) + b.size + t = left)) := by
  unfold laws_szRange.f
  rw [w64 (x := left - (a.size : Int)) (by omega) (by omega)]
  by_cases c1 : left - (a.size : Int) < 0
  · rw [if_pos c1]; exact ⟨_, rfl, .inl (by omega)⟩
  · rw [if_neg c1, w64 (x := left - (a.size : Int) - (b.size : Int)) (by omega) (by omega)]
    by_cases c2 : left - (a.size : Int) - (b.size : Int) < 0
    · rw [if_pos c2]; exact ⟨_, rfl, .inl (by omega)⟩
    · rw [if_neg c2]; exact ⟨_, rfl, .inr ⟨by omega, by omega⟩⟩

/-- Both answers on keys, from a place on. -/
theorem keyOk_l (s : ByteArray) (hs : s.size ≤ 140737488351232) : ∀ (d i : Nat), i + d = s.size → ∃ r, Ev (fun k => spec_KeyOk.l0 k s i) r ∧ Ev (fun k => impl_KeyOk.l0 k s i) r := by
  intro d
  induction d with
  | zero =>
    intro i hi
    obtain ⟨v, hv⟩ : ∃ v, impl_within.f (s.size : Int) 1 3 = some v := by unfold impl_within.f; split <;> exact ⟨_, rfl⟩
    have hv2 : spec_l01In.f (s.size : Int) 1 3 = some v := hv
    refine ⟨v, ev_step ?_, ev_step ?_⟩
    · simp only [spec_KeyOk.l0]
      exact ev_neg (by omega) (ev_cbind hv2 (Ev.now _))
    · simp only [impl_KeyOk.l0]
      exact ev_neg (by omega) (ev_cbind hv (Ev.now _))
  | succ d ih =>
    intro i hi
    by_cases h1 : bt s i < 97
    · refine ⟨false, ev_step ?_, ev_step ?_⟩
      · simp only [spec_KeyOk.l0]
        exact ev_pos (by omega) (ev_pos (by omega) (ev_pos h1 (Ev.now _)))
      · simp only [impl_KeyOk.l0]
        exact ev_pos (by omega) (ev_pos (by omega) (ev_pos h1 (Ev.now _)))
    · by_cases h2 : bt s i > 122
      · refine ⟨false, ev_step ?_, ev_step ?_⟩
        · simp only [spec_KeyOk.l0]
          exact ev_pos (by omega) (ev_pos (by omega) (ev_neg h1 (ev_pos h2 (Ev.now _))))
        · simp only [impl_KeyOk.l0]
          exact ev_pos (by omega) (ev_pos (by omega) (ev_neg h1 (ev_pos h2 (Ev.now _))))
      · obtain ⟨r, e1, e2⟩ := ih (i + 1) (by omega)
        have e : wrap64 ((i : Int) + 1) = ((i + 1 : Nat) : Int) := by rw [w64 (by omega) (by omega)]; omega
        refine ⟨r, ev_step ?_, ev_step ?_⟩
        · simp only [spec_KeyOk.l0]
          refine ev_pos (by omega) (ev_pos (by omega) (ev_neg h1 (ev_neg h2 ?_)))
          rw [e]; exact e1
        · simp only [impl_KeyOk.l0]
          refine ev_pos (by omega) (ev_pos (by omega) (ev_neg h1 (ev_neg h2 ?_)))
          rw [e]; exact e2
theorem keyOk_both (s : ByteArray) (hs : s.size ≤ 140737488351232) : ∃ r, Ev (fun k => spec_KeyOk.f k s) r ∧ Ev (fun k => impl_KeyOk.f k s) r := keyOk_l s hs s.size 0 (by omega)

theorem rangeOk_both (a b : ByteArray) (ha : a.size ≤ 140737488351232) (hb : b.size ≤ 140737488351232) : ∃ r, Ev (fun k => spec_RangeOk.f k a b) r ∧ Ev (fun k => impl_RangeOk.f k a b) r := by
  obtain ⟨r1, e1, f1⟩ := keyOk_both a ha
  obtain ⟨r2, e2, f2⟩ := keyOk_both b hb
  unfold spec_RangeOk.f impl_RangeOk.f
  cases r1 with
  | false => exact ⟨false, ev_bind e1 (ev_neg (by simp) (Ev.now _)), ev_bind f1 (ev_neg (by simp) (Ev.now _))⟩
  | true =>
    cases r2 with
    | false => exact ⟨false, ev_bind e1 (ev_pos rfl (ev_bind e2 (ev_neg (by simp) (Ev.now _)))), ev_bind f1 (ev_pos rfl (ev_bind f2 (ev_neg (by simp) (Ev.now _))))⟩
    | true => exact ⟨_, ev_bind e1 (ev_pos rfl (ev_bind e2 (ev_pos rfl (Ev.now _)))), ev_bind f1 (ev_pos rfl (ev_bind f2 (ev_pos rfl (Ev.now _))))⟩

theorem FnExactRangeOk (a0_0 : ByteArray) (a0_1 : ByteArray) : a0_0.size ≤ 9223372036854775807 → a0_1.size ≤ 9223372036854775807 → ∃ k, laws_FnExactRangeOk.f k a0_0 a0_1 = some true := by
  intro h0 h1
  obtain ⟨t, ht, hc⟩ := szRange_ok a0_0 a0_1 1048576 (by omega) (by omega) h0 h1
  refine ev_at ?_
  unfold laws_FnExactRangeOk.f
  refine ev_cbind ht (ev_if (fun _ => Ev.now _) (fun d => ?_))
  obtain ⟨r, e1, e2⟩ := rangeOk_both a0_0 a0_1 (by omega) (by omega)
  exact ev_cbind rfl (ev_bind e1 (ev_cbind rfl (ev_bind e2 (ev_neg (by simp) (Ev.now _)))))

end Go.Proofs.Ytabohnmepkiacaa.Pure
