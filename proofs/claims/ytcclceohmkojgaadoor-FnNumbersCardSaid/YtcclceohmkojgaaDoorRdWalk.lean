/- The law FnExactReadDecimal's walk: from a world where the table of powers and the two errors lie as the program lays them, the call answers true. Conditions: these; a text of a size that is held. -/
import Derived.Test.YtcclceohmkojgaaDoorRdMath
import Derived.Test.YtcclceohmkojgaaDoorSfItoa
import Derived.Test.YtcclceohmkojgaaDoorSfAtoi
import Derived.Lib.AppendIntMem
import Derived.Lib.SmallJoins
import Derived.WalkKit
namespace Go.Proofs.YtcclceohmkojgaaDoor.RdWalk
open Go.RowKit Go.Proofs Go.Proofs.YtcclceohmkojgaaDoor Go.Proofs.YtcclceohmkojgaaDoorW.PrintWords Go.Proofs.YtcclceohmkojgaaDoorW.PrintLast Go.Proofs.YtcclceohmkojgaaDoor.Aid Go.Proofs.YtcclceohmkojgaaDoor.QFnExactReadDecimal
set_option linter.unusedVariables false
theorem impl_dec (n : Int) (h0 : -9223372036854775808 ≤ n) (h1 : n ≤ 9223372036854775807) (w : World) (htab : Lib.TabIs Tryd.prog w "internal/strconv.uint64pow10" .u64 Lib.pow10Tab) :
    Calls Tryd.prog 11 #[.int .i64 n] w fun e w' => e = .returned (.string ⟨(Lib.itoa n).toArray⟩) ∧ Below w.heap.size w w' := by
  go_enter Tryd.func11, Tryd.ntmps11
  go_wp2_with (go_at_call 27; refine (Sf.strconv_Itoa n h0 h1 _ htab).mono ?_; rintro e w' ⟨rfl, k, os, rfl⟩)
  go_ret
  exact ⟨rfl, Lib.below_grow _ _ (Nat.le_refl _) k os⟩
theorem impl_rd (g : Nat) (hg : Tryd.prog.globalNamed "internal/strconv.uint64pow10" = some g) (s : ByteArray) (hs : s.size ≤ 1048576) (w : World) (htab : Lib.TabIs Tryd.prog w "internal/strconv.uint64pow10" .u64 Lib.pow10Tab)
    (tp tq : TypeId) (p q : Value) (hv1 : w.var? Tryd.prog "strconv.ErrSyntax" = some #[.iface tp p]) (hv2 : w.var? Tryd.prog "strconv.ErrRange" = some #[.iface tq q]) :
    Calls Tryd.prog 10 #[.string s] w fun e w' => e = .returned (.tuple #[.int .i64 (rdM s).1, .bool (rdM s).2]) ∧ Below w.heap.size w w' := by
  by_cases hc : ∀ v, Lib.atoiAll s.data.toList ≠ .ok v
  · have er : rdM s = (0, false) := by
      unfold rdM
      cases hA : Lib.atoiAll s.data.toList with
      | ok v => exact absurd hA (hc v)
      | _ => rfl
    rw [er]
    go_enter Tryd.func10, Tryd.ntmps10
    go_wp2_with (go_at_call 26; refine (Sf.strconv_Atoi_bad s (by omega) hc tp tq p q _ hv1 hv2).mono ?_; rintro e w1 ⟨v, N, rfl, hb1⟩)
    go_ret2
    exact ⟨rfl, hb1⟩
  · obtain ⟨v, hA⟩ := Classical.not_forall.1 hc
    have hA := Classical.not_not.1 hA
    have hv := Lib.atoiAll_bounds hA
    have er : rdM s = (if (⟨(Lib.itoa v).toArray⟩ : ByteArray).toList = s.toList then (if 0 ≤ v ∧ v ≤ 1000000000 then (v, true) else (0, false)) else (0, false)) := by unfold rdM; rw [hA]
    rw [er]
    have arm : ∀ {w1 : World}, (w1 = w ∨ ∃ t, w1 = Lib.bytesWorld w 5 t) → Below w.heap.size w w1 := by
      rintro w1 (rfl | ⟨t, rfl⟩)
      · exact Below.refl _ _
      · exact Lib.bytesWorld_below _ _ _
    have hd := impl_dec v hv.1 hv.2
    clear er
    generalize (⟨(Lib.itoa v).toArray⟩ : ByteArray) = t at hd ⊢
    go_enter Tryd.func10, Tryd.ntmps10
    by_cases c1 : t.toList = s.toList
    · have c1b0 : (t.toList == s.toList) = true := beq_iff_eq.mpr c1
      have c1b1 : (t.toList != s.toList) = false := bne_eq_false_iff_eq.mpr c1
      rw [if_pos c1]
      clear c1
      by_cases c2 : 0 ≤ v ∧ v ≤ 1000000000
      · have hw : impl_within.f v 0 1000000000 = some true := by
          unfold impl_within.f
          rw [if_pos c2.1, decide_eq_true c2.2]
        rw [if_pos c2]
        go_wp2_with (first
          | (go_at_call 26; refine (Sf.strconv_Atoi_ok s (by omega) v hA _).mono ?_; rintro e w1 ⟨rfl, hw1⟩; have hb1 := arm hw1; have ht1 := Go.Joins.tab_stays hg htab hb1 (Nat.le_refl _); clear hw1)
          | (go_at_call 11; refine (hd _ ht1).mono ?_; rintro e w2 ⟨rfl, hb2⟩)
          | (go_at_call 25; refine (impl_within.calls v 0 1000000000 true _ hw).mono ?_; rintro e w3 ⟨rfl, ⟨nd, rfl⟩⟩))
        go_ret2
        exact ⟨rfl, pw_below_drewN (hb1.trans (hb2.mono hb1.size)) _⟩
      · have hw : impl_within.f v 0 1000000000 = some false := by
          unfold impl_within.f
          by_cases c3 : v ≥ 0
          · rw [if_pos c3, decide_eq_false (by omega)]
          · rw [if_neg c3]
        rw [if_neg c2]
        go_wp2_with (first
          | (go_at_call 26; refine (Sf.strconv_Atoi_ok s (by omega) v hA _).mono ?_; rintro e w1 ⟨rfl, hw1⟩; have hb1 := arm hw1; have ht1 := Go.Joins.tab_stays hg htab hb1 (Nat.le_refl _); clear hw1)
          | (go_at_call 11; refine (hd _ ht1).mono ?_; rintro e w2 ⟨rfl, hb2⟩)
          | (go_at_call 25; refine (impl_within.calls v 0 1000000000 false _ hw).mono ?_; rintro e w3 ⟨rfl, ⟨nd, rfl⟩⟩))
        go_ret2
        exact ⟨rfl, pw_below_drewN (hb1.trans (hb2.mono hb1.size)) _⟩
    · have c1b0 : (t.toList == s.toList) = false := beq_eq_false_iff_ne.mpr c1
      have c1b1 : (t.toList != s.toList) = true := bne_iff_ne.mpr c1
      rw [if_neg c1]
      clear c1
      go_wp2_with (first
        | (go_at_call 26; refine (Sf.strconv_Atoi_ok s (by omega) v hA _).mono ?_; rintro e w1 ⟨rfl, hw1⟩; have hb1 := arm hw1; have ht1 := Go.Joins.tab_stays hg htab hb1 (Nat.le_refl _); clear hw1)
        | (go_at_call 11; refine (hd _ ht1).mono ?_; rintro e w2 ⟨rfl, hb2⟩))
      go_ret2
      exact ⟨rfl, hb1.trans (hb2.mono hb1.size)⟩
theorem walk (g : Nat) (hg : Tryd.prog.globalNamed "internal/strconv.uint64pow10" = some g) (s : ByteArray) (w : World) (htab : Lib.TabIs Tryd.prog w "internal/strconv.uint64pow10" .u64 Lib.pow10Tab)
    (g1 g2 : Nat) (hg1 : Tryd.prog.globalNamed "strconv.ErrSyntax" = some g1) (hg2 : Tryd.prog.globalNamed "strconv.ErrRange" = some g2)
    (tp tq : TypeId) (p q : Value) (hv1 : w.var? Tryd.prog "strconv.ErrSyntax" = some #[.iface tp p]) (hv2 : w.var? Tryd.prog "strconv.ErrRange" = some #[.iface tq q]) :
    Calls Tryd.prog 5 #[.string s] w fun e w' => e = .returned (.bool true) ∧ Below w.heap.size w w' := by
  obtain ⟨k, h⟩ := ev_at (spec_readDec s)
  go_enter Tryd.func5, Tryd.ntmps5
  by_cases c : 1048576 < s.size
  · have c0 : decide (1048576 < (s.size : Int)) = true := decide_eq_true (by omega)
    have c1 : decide (1048576 < s.size) = true := decide_eq_true c
    go_wp2
    go_ret
    exact ⟨rfl, Below.refl _ _⟩
  · have c0 : decide (1048576 < (s.size : Int)) = false := decide_eq_false (by omega)
    have c1 : decide (1048576 < s.size) = false := decide_eq_false c
    generalize hr : rdM s = r at h
    obtain ⟨r1, r2⟩ := r
    have hi : ∀ w1, Below w.heap.size w w1 → Calls Tryd.prog 10 #[.string s] w1 fun e w' => e = .returned (.tuple #[.int .i64 r1, .bool r2]) ∧ Below w1.heap.size w1 w' := by
      intro w1 hb1
      have := impl_rd g hg s (by omega) w1 (Go.Joins.tab_stays hg htab hb1 (Nat.le_refl _)) tp tq p q (Go.Joins.var_stays hg1 hv1 hb1 (Nat.le_refl _)) (Go.Joins.var_stays hg2 hv2 hb1 (Nat.le_refl _))
      rw [hr] at this
      exact this
    have e1 : (r1 != r1) = false := bne_self_eq_false r1
    have e2 : (r2 != r2) = false := bne_self_eq_false r2
    go_wp2_with (first
      | (go_at_call 22; refine (spec_ReadDecimal.calls k s r1 r2 _ h).mono ?_; rintro e w1 ⟨rfl, hb1⟩)
      | (go_at_call 10; refine (hi _ hb1).mono ?_; rintro e w2 ⟨rfl, hb2⟩))
    go_ret
    exact ⟨rfl, hb1.trans (hb2.mono hb1.size)⟩
end Go.Proofs.YtcclceohmkojgaaDoor.RdWalk
