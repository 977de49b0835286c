/- How two texts are held against each other, in the spelling of the printed functions. Plain lemmas. No conditions. -/
import Derived.WalkKit
import Derived.Laws.Cover1
namespace Go.Proofs.Ytjadloppdbhpiaa.StrCmp
open Go

theorem less_total : ∀ (a b : List UInt8), (Op.bytesLess a b || a == b) = !Op.bytesLess b a
  | [], [] => rfl
  | [], _ :: _ => rfl
  | _ :: _, [] => rfl
  | x :: a, y :: b => by
    have ih := less_total a b
    have he : (x :: a == y :: b) = (x == y && a == b) := rfl
    simp only [Op.bytesLess, he]
    by_cases h : x = y
    · subst h
      simp only [UInt8.lt_irrefl, decide_false, Bool.false_or, beq_self_eq_true, Bool.true_and]
      exact ih
    · have hb : (x == y) = false := by simpa using h
      have hb2 : (y == x) = false := by simpa using fun e => h e.symm
      rw [hb, hb2]
      simp only [Bool.false_and, Bool.or_false]
      have hn : x.toNat ≠ y.toNat := fun e => h (UInt8.toNat_inj.1 e)
      by_cases hl : x < y
      · have h2 : ¬ y < x := by rw [UInt8.lt_iff_toNat_lt] at *; omega
        simp [hl, h2]
      · have h2 : y < x := by rw [UInt8.lt_iff_toNat_lt] at *; omega
        simp [hl, h2]
@[go_sem high] theorem str_leq (t : TypeId) (a b : ByteArray) : binOp .leq t (.string a) (.string b) = pure (.bool (!Op.bytesLess b.toList a.toList)) := by
  rw [binOp_string_leq, less_total]
@[go_sem high] theorem str_gtr (t : TypeId) (a b : ByteArray) : binOp .gtr t (.string a) (.string b) = pure (.bool (Op.bytesLess b.toList a.toList)) := by
  rw [binOp_string_gtr, less_total, Bool.not_not]
end Go.Proofs.Ytjadloppdbhpiaa.StrCmp
