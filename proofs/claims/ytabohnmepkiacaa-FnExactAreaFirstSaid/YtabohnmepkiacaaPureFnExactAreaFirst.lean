/- The law FnExactAreaFirst answers true at every int. Conditions: the argument is an int. -/
import Derived.Test.YtabohnmepkiacaaPFnExactAreaFirstx1
import Derived.Test.YtabohnmepkiacaaAid
namespace Go.Proofs.Ytabohnmepkiacaa.Pure
open Go.RowKit Go.Proofs.Ytabohnmepkiacaa.PFnExactAreaFirst Go.Proofs.YtabohnmepkiacaaW.PrintWords Go.Proofs.YtabohnmepkiacaaW.PrintLast Go.Proofs.Ytabohnmepkiacaa.Aid

theorem FnExactAreaFirst : laws_FnExactAreaFirst.Pure := by
  intro a h
  unfold laws_FnExactAreaFirst.f spec_AreaFirst.f impl_AreaFirst.f spec_l01In.f impl_isArea.f
  by_cases h0 : a = 0
  · subst h0; simp
  · by_cases h1 : a = 1
    · subst h1; simp
    · rw [if_neg h0]
      by_cases h2 : a ≥ 0
      · have : ¬ a ≤ 1 := by omega
        simp [h2, this, h1]
      · simp [h2, h1]

end Go.Proofs.Ytabohnmepkiacaa.Pure
