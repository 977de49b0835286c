/- What the reference's Decimal tells is what strconv.Itoa tells: plain lemmas on the printed function. Conditions: an int's range. -/
import Derived.Test.YtoddbednkedmaaaDoorQFnExactDecimalx1
import Derived.Test.YtoddbednkedmaaaDoorAid
import Derived.Lib.ItoaNum
namespace Go.Proofs.YtoddbednkedmaaaDoor.QFnExactDecimal
open Go.RowKit Go.Proofs.YtoddbednkedmaaaDoorW.PrintWords Go.Proofs.YtoddbednkedmaaaDoorW.PrintLast Go.Proofs.YtoddbednkedmaaaDoor.Aid
set_option linter.unusedVariables false
def decE (u : Nat) : List UInt8 := if u = 0 then [] else Lib.decDigits u
theorem decE_step (u : Nat) (h : 0 < u) : decE u = decE (u / 10) ++ [UInt8.ofNat (48 + u % 10)] := by
  unfold decE
  rw [if_neg (by omega), Lib.decDigits]
  by_cases c : u < 10
  · have e1 : u / 10 = 0 := by omega
    have e2 : u % 10 = u := by omega
    rw [dif_pos c, e1, e2, if_pos rfl]
    rfl
  · rw [dif_neg c, if_neg (by omega)]
theorem bytes_step (u : Nat) (h : 0 < u) (s : ByteArray) : (⟨(decE (u / 10)).toArray⟩ : ByteArray) ++ (strOfNums [((48 + u % 10 : Nat) : Int)] ++ s) = (⟨(decE u).toArray⟩ : ByteArray) ++ s := by
  have hs : strOfNums [((48 + u % 10 : Nat) : Int)] = ⟨#[UInt8.ofNat (48 + u % 10)]⟩ := rfl
  rw [hs, decE_step u h]
  generalize UInt8.ofNat (48 + u % 10) = x
  apply ByteArray.ext
  apply Array.toList_inj.1
  simp [ByteArray.data_append]
def signed (b : Bool) (s : ByteArray) : ByteArray := if b = true then (⟨#[45]⟩ : ByteArray) ++ s else s
theorem end_ok (b : Bool) (s : ByteArray) (hs : s.size ≤ 1000) : Ev (fun k => spec_Decimal.l0 k 0 b s) (signed b s) := by
  refine ev_step ?_
  simp only [spec_Decimal.l0]
  refine ev_pos (by first | rfl | trivial) ?_
  by_cases c : b = true
  · have e : signed b s = (⟨#[45]⟩ : ByteArray) ++ s := by unfold signed; exact if_pos c
    rw [e]
    exact ev_pos c (ev_pos (by omega) (Ev.now _))
  · have e : signed b s = s := by unfold signed; exact if_neg c
    rw [e]
    exact ev_neg c (Ev.now _)
theorem one_size (x : Int) : (strOfNums [x]).size = 1 := rfl
theorem app_size (x : Int) (s : ByteArray) : (strOfNums [x] ++ s).size = 1 + s.size := by rw [ByteArray.size_append, one_size]
theorem dec_pos : ∀ (m u : Nat) (b : Bool) (s : ByteArray), u < 10 ^ m → u ≤ 9223372036854775808 → s.size + m ≤ 30 → Ev (fun k => spec_Decimal.l0 k (-(u : Int)) b s) (signed b ((⟨(decE u).toArray⟩ : ByteArray) ++ s)) ∧ (u < 9223372036854775808 → Ev (fun k => spec_Decimal.l0 k (u : Int) b s) (signed b ((⟨(decE u).toArray⟩ : ByteArray) ++ s)))
  | 0, u, b, s, h, _, hs => by
    obtain rfl : u = 0 := by simpa using h
    have e : (⟨(decE 0).toArray⟩ : ByteArray) ++ s = s := by
      apply ByteArray.ext
      simp [decE, ByteArray.data_append]
    rw [e]
    exact ⟨end_ok b s (by omega), fun _ => end_ok b s (by omega)⟩
  | m + 1, u, b, s, h, hu, hs => by
    by_cases c : u = 0
    · subst c
      have e : (⟨(decE 0).toArray⟩ : ByteArray) ++ s = s := by
        apply ByteArray.ext
        simp [decE, ByteArray.data_append]
      rw [e]
      exact ⟨end_ok b s (by omega), fun _ => end_ok b s (by omega)⟩
    have h10 : u / 10 < 10 ^ m := by rw [Nat.pow_succ] at h; omega
    obtain ⟨i1, i2⟩ := dec_pos m (u / 10) b (strOfNums [((48 + u % 10 : Nat) : Int)] ++ s) h10 (by omega) (by rw [app_size]; omega)
    rw [bytes_step u (by omega)] at i1 i2
    have fg : spec_l01Figure.f ((u % 10 : Nat) : Int) = some (((48 + u % 10 : Nat) : Int)) := by
      unfold spec_l01Figure.f
      rw [if_pos (by omega), w64 (by omega) (by omega)]
      congr 1
      omega
    have z1 : (strOfNums [((48 + u % 10 : Nat) : Int)]).size + s.size ≤ 9223372036854775807 := by rw [one_size]; omega
    refine ⟨ev_step ?_, fun hu2 => ev_step ?_⟩
    · simp only [spec_Decimal.l0]
      have t1 : Int.tmod (-(u : Int)) 10 = -((u % 10 : Nat) : Int) := by rw [Int.neg_tmod]; rfl
      have t2 : wrap64 (Int.tdiv (-(u : Int)) 10) = -((u / 10 : Nat) : Int) := by rw [Int.neg_tdiv, show Int.tdiv (u : Int) 10 = ((u / 10 : Nat) : Int) from rfl, w64 (by omega) (by omega)]
      have t3 : wrap64 (-(-((u % 10 : Nat) : Int))) = ((u % 10 : Nat) : Int) := by rw [Int.neg_neg, w64 (by omega) (by omega)]
      rw [t1, t2, t3]
      clear t1 t2 t3
      refine ev_neg (by omega) ?_
      by_cases c2 : -((u % 10 : Nat) : Int) < 0
      · exact ev_pos c2 (ev_cbind fg (ev_cbind rfl (ev_pos z1 i1)))
      · have e0 : -((u % 10 : Nat) : Int) = ((u % 10 : Nat) : Int) := by omega
        rw [e0]
        rw [e0] at c2
        exact ev_neg c2 (ev_cbind fg (ev_cbind rfl (ev_pos z1 i1)))
    · simp only [spec_Decimal.l0]
      have t1 : Int.tmod (u : Int) 10 = ((u % 10 : Nat) : Int) := rfl
      have t2 : wrap64 (Int.tdiv (u : Int) 10) = ((u / 10 : Nat) : Int) := by rw [show Int.tdiv (u : Int) 10 = ((u / 10 : Nat) : Int) from rfl, w64 (by omega) (by omega)]
      rw [t1, t2]
      clear t1 t2
      exact ev_neg (by omega) (ev_neg (by omega) (ev_cbind fg (ev_cbind rfl (ev_pos z1 (i2 (by omega))))))
theorem spec_dec (n : Int) (h0 : -9223372036854775808 ≤ n) (h1 : n ≤ 9223372036854775807) : Ev (fun k => spec_Decimal.f k n) (⟨(Lib.itoa n).toArray⟩ : ByteArray) := by
  unfold spec_Decimal.f Lib.itoa
  by_cases c : n = 0
  · subst c
    refine ev_pos rfl (ev_now ?_)
    rw [if_neg (by decide), Lib.decDigits]
    rfl
  · refine ev_neg c ?_
    have nil : ∀ x : ByteArray, x ++ (⟨#[]⟩ : ByteArray) = x := fun x => ByteArray.append_empty
    by_cases c2 : n < 0
    · obtain ⟨u, hu⟩ : ∃ u : Nat, n = -(u : Int) := ⟨n.natAbs, by omega⟩
      have h := (dec_pos 20 u true (⟨#[]⟩ : ByteArray) (by have : (10 : Nat) ^ 20 = 100000000000000000000 := rfl; omega) (by omega) (by decide)).1
      rw [decide_eq_true c2, if_pos c2]
      rw [← hu] at h
      refine ev_eq h ?_
      have e : n.natAbs = u := by omega
      rw [nil, e]
      apply ByteArray.ext
      simp [signed, decE, ByteArray.data_append, show ¬ u = 0 by omega]
    · obtain ⟨u, hu⟩ : ∃ u : Nat, n = (u : Int) := ⟨n.toNat, by omega⟩
      have h := (dec_pos 20 u false (⟨#[]⟩ : ByteArray) (by have : (10 : Nat) ^ 20 = 100000000000000000000 := rfl; omega) (by omega) (by decide)).2 (by omega)
      rw [decide_eq_false c2, if_neg c2]
      rw [← hu] at h
      refine ev_eq h ?_
      have e : n.toNat = u := by omega
      rw [nil, e]
      simp [signed, decE, show ¬ u = 0 by omega]
end Go.Proofs.YtoddbednkedmaaaDoor.QFnExactDecimal
