/- What the program's Decimal and ReadDecimal answer, from a memory where the table of powers and the two errors lie as the program lays them. Conditions: as each theorem states. -/
import Derived.Test.YtcclceohmkojgaaDoorRdWalk
import Derived.Test.YtcclceohmkojgaaDoorSfIndexByte
namespace Go.Proofs.YtcclceohmkojgaaDoor.Sf
open Go.RowKit Go.Proofs Go.Proofs.YtcclceohmkojgaaDoor Go.Proofs.YtcclceohmkojgaaDoorW.PrintWords Go.Proofs.YtcclceohmkojgaaDoor.QFnExactReadDecimal
set_option linter.unusedVariables false
/-- What these calls want of the memory. -/
def Laid (w : World) : Prop := Lib.TabIs Tryd.prog w "internal/strconv.uint64pow10" .u64 Lib.pow10Tab ∧ (∃ (tp : TypeId) (p : Value), w.var? Tryd.prog "strconv.ErrSyntax" = some #[.iface tp p]) ∧ ∃ (tq : TypeId) (q : Value), w.var? Tryd.prog "strconv.ErrRange" = some #[.iface tq q]
theorem ldS {w w' : World} (h : Aside0 (Laid w)) (hb : Below w.heap.size w w') : Aside0 (Laid w') := by
  obtain ⟨h1, ⟨tp, p, h2⟩, tq, q, h3⟩ := h.out
  exact ⟨Go.Joins.tab_stays (show Tryd.prog.globalNamed "internal/strconv.uint64pow10" = some 5 by kernel_rfl) h1 hb (Nat.le_refl _), ⟨tp, p, Go.Joins.var_stays (show Tryd.prog.globalNamed "strconv.ErrSyntax" = some 2 by kernel_rfl) h2 hb (Nat.le_refl _)⟩, tq, q, Go.Joins.var_stays (show Tryd.prog.globalNamed "strconv.ErrRange" = some 3 by kernel_rfl) h3 hb (Nat.le_refl _)⟩
def impl_Decimal.f (a0 : Int) : Option (ByteArray) := if -9223372036854775808 ≤ a0 ∧ a0 ≤ 9223372036854775807 then some (⟨(Lib.itoa a0).toArray⟩ : ByteArray) else none
theorem impl_Decimal.calls (a0 : Int) (r : ByteArray) (w : World) (hLd : Aside0 (Laid w)) (h : impl_Decimal.f a0 = some r) : Calls Tryd.prog 11 #[.int .i64 a0] w fun e w' => e = .returned (.string r) ∧ Below w.heap.size w w' := by
  unfold impl_Decimal.f at h
  by_cases c : -9223372036854775808 ≤ a0 ∧ a0 ≤ 9223372036854775807
  · rw [if_pos c] at h
    obtain rfl := Option.some.inj h
    exact RdWalk.impl_dec a0 c.1 c.2 w hLd.out.1
  · rw [if_neg c] at h
    cases h
def impl_ReadDecimal.f (a0 : ByteArray) : Option (Int × Bool) := if a0.size ≤ 1048576 then some (rdM a0) else none
theorem impl_ReadDecimal.calls (a0 : ByteArray) (r1 : Int) (r2 : Bool) (w : World) (hLd : Aside0 (Laid w)) (h : impl_ReadDecimal.f a0 = some (r1, r2)) : Calls Tryd.prog 10 #[.string a0] w fun e w' => e = .returned (.tuple #[.int .i64 r1, .bool r2]) ∧ Below w.heap.size w w' := by
  unfold impl_ReadDecimal.f at h
  by_cases c : a0.size ≤ 1048576
  · rw [if_pos c] at h
    have e := Option.some.inj h
    obtain ⟨h1, ⟨tp, p, h2⟩, tq, q, h3⟩ := hLd.out
    have := RdWalk.impl_rd 5 (by kernel_rfl) a0 c w h1 tp tq p q h2 h3
    rw [e] at this
    exact this
  · rw [if_neg c] at h
    cases h
end Go.Proofs.YtcclceohmkojgaaDoor.Sf
