/- The law FnExactDecimal's walk: from a world where the table of powers lies as the program lays it, the call answers true. Conditions: the table; an int's range. -/
import Derived.Test.YtoddbednkedmaaaDoorDecMath
import Derived.Test.YtoddbednkedmaaaDoorSfItoa
import Derived.Lib.AppendIntMem
import Derived.Lib.SmallJoins
import Derived.WalkKit
namespace Go.Proofs.YtoddbednkedmaaaDoor.DecWalk
open Go.RowKit Go.Proofs Go.Proofs.YtoddbednkedmaaaDoor Go.Proofs.YtoddbednkedmaaaDoor.Aid Go.Proofs.YtoddbednkedmaaaDoor.QFnExactDecimal
set_option linter.unusedVariables false
theorem impl_dec (n : Int) (h0 : -9223372036854775808 ≤ n) (h1 : n ≤ 9223372036854775807) (w : World) (htab : Lib.TabIs Tryd.prog w "internal/strconv.uint64pow10" .u64 Lib.pow10Tab) :
    Calls Tryd.prog 5 #[.int .i64 n] w fun e w' => e = .returned (.string ⟨(Lib.itoa n).toArray⟩) ∧ Below w.heap.size w w' := by
  go_enter Tryd.func5, Tryd.ntmps5
  go_wp2_with (go_at_call 7; refine (Sf.strconv_Itoa n h0 h1 _ htab).mono ?_; rintro e w' ⟨rfl, k, os, rfl⟩)
  go_ret
  exact ⟨rfl, Lib.below_grow _ _ (Nat.le_refl _) k os⟩
theorem walk (g : Nat) (hg : Tryd.prog.globalNamed "internal/strconv.uint64pow10" = some g) (n : Int) (h0 : -9223372036854775808 ≤ n) (h1 : n ≤ 9223372036854775807) (w : World) (htab : Lib.TabIs Tryd.prog w "internal/strconv.uint64pow10" .u64 Lib.pow10Tab) :
    Calls Tryd.prog 3 #[.int .i64 n] w fun e w' => e = .returned (.bool true) ∧ Below w.heap.size w w' := by
  obtain ⟨k, h⟩ := ev_at (spec_dec n h0 h1)
  go_enter Tryd.func3, Tryd.ntmps3
  go_wp2_with (first
    | (go_at_call 4; refine (spec_Decimal.calls k n _ _ h).mono ?_; rintro e w1 ⟨rfl, hb1⟩; have ht1 := Go.Joins.tab_stays hg htab hb1 (Nat.le_refl _))
    | (go_at_call 5; refine (impl_dec n h0 h1 _ ht1).mono ?_; rintro e w2 ⟨rfl, hb2⟩))
  go_ret
  exact ⟨rfl, hb1.trans (hb2.mono hb1.size)⟩
end Go.Proofs.YtoddbednkedmaaaDoor.DecWalk
