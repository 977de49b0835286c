/- The law FnExactInRange answers true at every range and key. Conditions: the sizes as the row gives them. -/
import Derived.Test.YtabohnmepkiacaaQFnExactInRangex1
import Derived.Test.YtabohnmepkiacaaAid
namespace Go.Proofs.Ytabohnmepkiacaa.Pure
open Go.RowKit Go.Proofs.Ytabohnmepkiacaa.QFnExactInRange Go.Proofs.YtabohnmepkiacaaW.PrintWords Go.Proofs.YtabohnmepkiacaaW.PrintLast Go.Proofs.Ytabohnmepkiacaa.Aid

theorem szRange_ok (a b : ByteArray) (left : Int) (h0 : 0 ≤ left) (h1 : left ≤ 1048576) (ha : a.size ≤ 9223372036854775807) (hb : b.size ≤ 9223372036854775807) :
    ∃ t, laws_szRange.f a b left = some t ∧ (t < 0 ∨ (0 ≤ t ∧ (a.size : Int) + b.size + t = left)) := by
  unfold laws_szRange.f
  rw [w64 (x := left - (a.size : Int)) (by omega) (by omega)]
  by_cases c1 : left - (a.size : Int) < 0
  · rw [if_pos c1]; exact ⟨_, rfl, .inl (by omega)⟩
  · rw [if_neg c1, w64 (x := left - (a.size : Int) - (b.size : Int)) (by omega) (by omega)]
    by_cases c2 : left - (a.size : Int) - (b.size : Int) < 0
    · rw [if_pos c2]; exact ⟨_, rfl, .inl (by omega)⟩
    · rw [if_neg c2]; exact ⟨_, rfl, .inr ⟨by omega, by omega⟩⟩

theorem FnExactInRange (a0_0 : ByteArray) (a0_1 : ByteArray) (a1 : ByteArray) : a0_0.size ≤ 9223372036854775807 → a0_1.size ≤ 9223372036854775807 → a1.size ≤ 9223372036854775807 → laws_FnExactInRange.f a0_0 a0_1 a1 = some true := by
  intro h0 h1 h2
  unfold laws_FnExactInRange.f
  by_cases c : (a1.size : Int) > 1048576
  · rw [if_pos c]
  · rw [if_neg c]
    obtain ⟨t, ht, hc⟩ := szRange_ok a0_0 a0_1 1048576 (by omega) (by omega) h0 h1
    rw [ht]
    simp only [Option.bind_some]
    by_cases d : t < 0
    · rw [if_pos d]
    · rw [if_neg d]
      unfold laws_toRange.f
      have e : spec_InRange.f a0_0 a0_1 a1 = impl_InRange.f a0_0 a0_1 a1 := rfl
      obtain ⟨v, hv⟩ : ∃ v, impl_InRange.f a0_0 a0_1 a1 = some v := by unfold impl_InRange.f; split <;> exact ⟨_, rfl⟩
      simp only [Option.bind_some, e, hv]
      simp

end Go.Proofs.Ytabohnmepkiacaa.Pure
