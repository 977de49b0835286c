/- What the reference's ReadDecimal tells is what Atoi and Itoa tell: plain lemmas on the printed functions. Conditions: none. -/
import Derived.Test.YtcclceohmkojgaaDoorQFnExactReadDecimalx1
import Derived.Test.YtcclceohmkojgaaDoorAid
import Derived.Lib.ItoaMem
import Derived.Lib.AtoiTie
namespace Go.Proofs.YtcclceohmkojgaaDoor.QFnExactReadDecimal
open Go.RowKit Go.Proofs.YtcclceohmkojgaaDoorW.PrintWords Go.Proofs.YtcclceohmkojgaaDoorW.PrintLast Go.Proofs.YtcclceohmkojgaaDoor.Aid
set_option linter.unusedVariables false
theorem bt_nat (s : ByteArray) (i : Nat) (h : i < s.size) : bt s (i : Int) = ((s[i]'h).toNat : Int) := by
  unfold bt
  have e : ((i : Nat) : Int).toNat = i := Int.toNat_natCast i
  rw [dif_pos (by rw [e]; exact h)]
  simp only [e]
theorem toList_inj {a b : ByteArray} (h : a.toList = b.toList) : a = b := by
  rw [ByteArray.toList_eq, ByteArray.toList_eq] at h
  exact ByteArray.ext (Array.toList_inj.1 h)
def decE (u : Nat) : List UInt8 := if u = 0 then [] else Lib.decDigits u
theorem decE_step (u : Nat) (h : 0 < u) : decE u = decE (u / 10) ++ [UInt8.ofNat (48 + u % 10)] := by
  unfold decE
  rw [if_neg (by omega), Lib.decDigits]
  by_cases c : u < 10
  · have e1 : u / 10 = 0 := by omega
    have e2 : u % 10 = u := by omega
    rw [dif_pos c, e1, e2, if_pos rfl]
    rfl
  · rw [dif_neg c, if_neg (by omega)]
theorem bytes_step (u : Nat) (h : 0 < u) (s : ByteArray) : (⟨(decE (u / 10)).toArray⟩ : ByteArray) ++ (strOfNums [((48 + u % 10 : Nat) : Int)] ++ s) = (⟨(decE u).toArray⟩ : ByteArray) ++ s := by
  have hs : strOfNums [((48 + u % 10 : Nat) : Int)] = ⟨#[UInt8.ofNat (48 + u % 10)]⟩ := rfl
  rw [hs, decE_step u h]
  generalize UInt8.ofNat (48 + u % 10) = x
  apply ByteArray.ext
  apply Array.toList_inj.1
  simp [ByteArray.data_append]
def signed (b : Bool) (s : ByteArray) : ByteArray := if b = true then (⟨#[45]⟩ : ByteArray) ++ s else s
theorem end_ok (b : Bool) (s : ByteArray) (hs : s.size ≤ 1000) : Ev (fun k => spec_Decimal.l0 k 0 b s) (signed b s) := by
  refine ev_step ?_
  simp only [spec_Decimal.l0]
  refine ev_pos (by first | rfl | trivial) ?_
  by_cases c : b = true
  · have e : signed b s = (⟨#[45]⟩ : ByteArray) ++ s := by unfold signed; exact if_pos c
    rw [e]
    exact ev_pos c (ev_pos (by omega) (Ev.now _))
  · have e : signed b s = s := by unfold signed; exact if_neg c
    rw [e]
    exact ev_neg c (Ev.now _)
theorem one_size (x : Int) : (strOfNums [x]).size = 1 := rfl
theorem app_size (x : Int) (s : ByteArray) : (strOfNums [x] ++ s).size = 1 + s.size := by rw [ByteArray.size_append, one_size]
theorem dec_pos : ∀ (m u : Nat) (b : Bool) (s : ByteArray), u < 10 ^ m → u ≤ 9223372036854775808 → s.size + m ≤ 30 → Ev (fun k => spec_Decimal.l0 k (-(u : Int)) b s) (signed b ((⟨(decE u).toArray⟩ : ByteArray) ++ s)) ∧ (u < 9223372036854775808 → Ev (fun k => spec_Decimal.l0 k (u : Int) b s) (signed b ((⟨(decE u).toArray⟩ : ByteArray) ++ s)))
  | 0, u, b, s, h, _, hs => by
    obtain rfl : u = 0 := by simpa using h
    have e : (⟨(decE 0).toArray⟩ : ByteArray) ++ s = s := by
      apply ByteArray.ext
      simp [decE, ByteArray.data_append]
    rw [e]
    exact ⟨end_ok b s (by omega), fun _ => end_ok b s (by omega)⟩
  | m + 1, u, b, s, h, hu, hs => by
    by_cases c : u = 0
    · subst c
      have e : (⟨(decE 0).toArray⟩ : ByteArray) ++ s = s := by
        apply ByteArray.ext
        simp [decE, ByteArray.data_append]
      rw [e]
      exact ⟨end_ok b s (by omega), fun _ => end_ok b s (by omega)⟩
    have h10 : u / 10 < 10 ^ m := by rw [Nat.pow_succ] at h; omega
    obtain ⟨i1, i2⟩ := dec_pos m (u / 10) b (strOfNums [((48 + u % 10 : Nat) : Int)] ++ s) h10 (by omega) (by rw [app_size]; omega)
    rw [bytes_step u (by omega)] at i1 i2
    have fg : spec_l01Figure.f ((u % 10 : Nat) : Int) = some (((48 + u % 10 : Nat) : Int)) := by
      unfold spec_l01Figure.f
      rw [if_pos (by omega), w64 (by omega) (by omega)]
      congr 1
      omega
    have z1 : (strOfNums [((48 + u % 10 : Nat) : Int)]).size + s.size ≤ 9223372036854775807 := by rw [one_size]; omega
    refine ⟨ev_step ?_, fun hu2 => ev_step ?_⟩
    · simp only [spec_Decimal.l0]
      have t1 : Int.tmod (-(u : Int)) 10 = -((u % 10 : Nat) : Int) := by rw [Int.neg_tmod]; rfl
      have t2 : wrap64 (Int.tdiv (-(u : Int)) 10) = -((u / 10 : Nat) : Int) := by rw [Int.neg_tdiv, show Int.tdiv (u : Int) 10 = ((u / 10 : Nat) : Int) from rfl, w64 (by omega) (by omega)]
      have t3 : wrap64 (-(-((u % 10 : Nat) : Int))) = ((u % 10 : Nat) : Int) := by rw [Int.neg_neg, w64 (by omega) (by omega)]
      rw [t1, t2, t3]
      clear t1 t2 t3
      refine ev_neg (by omega) ?_
      by_cases c2 : -((u % 10 : Nat) : Int) < 0
      · exact ev_pos c2 (ev_cbind fg (ev_cbind rfl (ev_pos z1 i1)))
      · have e0 : -((u % 10 : Nat) : Int) = ((u % 10 : Nat) : Int) := by omega
        rw [e0]
        rw [e0] at c2
        exact ev_neg c2 (ev_cbind fg (ev_cbind rfl (ev_pos z1 i1)))
    · simp only [spec_Decimal.l0]
      have t1 : Int.tmod (u : Int) 10 = ((u % 10 : Nat) : Int) := rfl
      have t2 : wrap64 (Int.tdiv (u : Int) 10) = ((u / 10 : Nat) : Int) := by rw [show Int.tdiv (u : Int) 10 = ((u / 10 : Nat) : Int) from rfl, w64 (by omega) (by omega)]
      rw [t1, t2]
      clear t1 t2
      exact ev_neg (by omega) (ev_neg (by omega) (ev_cbind fg (ev_cbind rfl (ev_pos z1 (i2 (by omega))))))
theorem spec_dec (n : Int) (h0 : -9223372036854775808 ≤ n) (h1 : n ≤ 9223372036854775807) : Ev (fun k => spec_Decimal.f k n) (⟨(Lib.itoa n).toArray⟩ : ByteArray) := by
  unfold spec_Decimal.f Lib.itoa
  by_cases c : n = 0
  · subst c
    refine ev_pos rfl (ev_now ?_)
    rw [if_neg (by decide), Lib.decDigits]
    rfl
  · refine ev_neg c ?_
    have nil : ∀ x : ByteArray, x ++ (⟨#[]⟩ : ByteArray) = x := fun x => ByteArray.append_empty
    by_cases c2 : n < 0
    · obtain ⟨u, hu⟩ : ∃ u : Nat, n = -(u : Int) := ⟨n.natAbs, by omega⟩
      have h := (dec_pos 20 u true (⟨#[]⟩ : ByteArray) (by have : (10 : Nat) ^ 20 = 100000000000000000000 := rfl; omega) (by omega) (by decide)).1
      rw [decide_eq_true c2, if_pos c2]
      rw [← hu] at h
      refine ev_eq h ?_
      have e : n.natAbs = u := by omega
      rw [nil, e]
      apply ByteArray.ext
      simp [signed, decE, ByteArray.data_append, show ¬ u = 0 by omega]
    · obtain ⟨u, hu⟩ : ∃ u : Nat, n = (u : Int) := ⟨n.toNat, by omega⟩
      have h := (dec_pos 20 u false (⟨#[]⟩ : ByteArray) (by have : (10 : Nat) ^ 20 = 100000000000000000000 := rfl; omega) (by omega) (by decide)).2 (by omega)
      rw [decide_eq_false c2, if_neg c2]
      rw [← hu] at h
      refine ev_eq h ?_
      have e : n.toNat = u := by omega
      rw [nil, e]
      simp [signed, decE, show ¬ u = 0 by omega]

/-! what a decimal text reads as -/
theorem decFrom_snoc : ∀ (l : List UInt8) (acc : Nat) (b : UInt8), Lib.decFrom acc (l ++ [b]) = (Lib.decFrom acc l).bind fun n => (Lib.digitVal b).map fun d => n * 10 + d
  | [], acc, b => by
    show Lib.decFrom acc [b] = (Lib.digitVal b).map fun d => acc * 10 + d
    unfold Lib.decFrom
    cases Lib.digitVal b <;> rfl
  | a :: l, acc, b => by
    show Lib.decFrom acc (a :: (l ++ [b])) = (Lib.decFrom acc (a :: l)).bind _
    unfold Lib.decFrom
    cases Lib.digitVal a with
    | none => rfl
    | some d => exact decFrom_snoc l _ b
theorem digit_of (d : Nat) (h : d < 10) : Lib.digitVal (UInt8.ofNat (48 + d)) = some d := by
  have e : (UInt8.ofNat (48 + d)).toNat = 48 + d := by rw [UInt8.toNat_ofNat']; omega
  unfold Lib.digitVal
  rw [e, if_pos (by omega), show 48 + d - 48 = d by omega]
theorem decFrom_digits (u : Nat) : Lib.decFrom 0 (Lib.decDigits u) = some u := by
  induction u using Nat.strongRecOn with
  | _ u ih =>
    rw [Lib.decDigits]
    by_cases c : u < 10
    · rw [dif_pos c]
      show Lib.decFrom 0 ([] ++ [_]) = _
      rw [decFrom_snoc, digit_of u c]
      show some (0 * 10 + u) = some u
      rw [Nat.zero_mul, Nat.zero_add]
    · rw [dif_neg c, decFrom_snoc, ih (u / 10) (by omega), digit_of _ (by omega)]
      show some (u / 10 * 10 + u % 10) = some u
      congr 1
      omega
theorem nDigits_le : ∀ (k u : Nat), u < 10 ^ (k + 1) → Lib.nDigits u ≤ k + 1
  | 0, u, h => by rw [Lib.nDigits_small (by simpa using h)]; omega
  | k + 1, u, h => by
    by_cases c : u < 10
    · rw [Lib.nDigits_small c]; omega
    · rw [Lib.nDigits_big c]
      have := nDigits_le k (u / 10) (by rw [Nat.pow_succ] at h; omega)
      omega
theorem digits_len (u : Nat) (h : u ≤ 1000000000) : (Lib.decDigits u).length ≤ 10 := by
  rw [Lib.decDigits_length]
  exact nDigits_le 9 u (by omega)
theorem digits_head (u : Nat) : ∃ b r, Lib.decDigits u = b :: r ∧ 48 ≤ b.toNat ∧ b.toNat ≤ 57 := by
  induction u using Nat.strongRecOn with
  | _ u ih =>
    rw [Lib.decDigits]
    by_cases c : u < 10
    · rw [dif_pos c]
      refine ⟨_, _, rfl, ?_⟩
      rw [UInt8.toNat_ofNat']
      omega
    · rw [dif_neg c]
      obtain ⟨b, r, e, h⟩ := ih (u / 10) (by omega)
      rw [e]
      exact ⟨b, r ++ _, rfl, h⟩
theorem atoi_digits (u : Nat) (h : u ≤ 1000000000) : Lib.atoiAll (Lib.decDigits u) = .ok (u : Int) := by
  rw [Lib.atoiAll_short _ (Nat.le_trans (digits_len u h) (by decide))]
  obtain ⟨b, r, e, h1, h2⟩ := digits_head u
  have hd := decFrom_digits u
  rw [e] at hd ⊢
  have n1 : (b == 45) = false := by
    rw [beq_eq_false_iff_ne]
    rintro rfl
    exact absurd h1 (by decide)
  have n2 : (b == 43) = false := by
    rw [beq_eq_false_iff_ne]
    rintro rfl
    exact absurd h1 (by decide)
  have e2 : Lib.atoi (b :: r) = (if (b == 45) = true then (Lib.decNat r).map fun (m : Nat) => -(m : Int) else if (b == 43) = true then (Lib.decNat r).map fun (m : Nat) => (m : Int) else (Lib.decNat (b :: r)).map fun (m : Nat) => (m : Int)) := rfl
  rw [e2, n1, n2]
  show Lib.NumEnd.ofOption ((Lib.decNat (b :: r)).map _) = _
  unfold Lib.decNat
  rw [show (b :: r).isEmpty = false from rfl, hd]
  rfl
/-- How ReadDecimal ends, by way of Atoi. -/
def rdM (s : ByteArray) : Int × Bool := match Lib.atoiAll s.data.toList with
  | .ok v => if (⟨(Lib.itoa v).toArray⟩ : ByteArray).toList = s.toList then (if 0 ≤ v ∧ v ≤ 1000000000 then (v, true) else (0, false)) else (0, false)
  | _ => (0, false)
/-- How the reference's does. -/
def rdS (s : ByteArray) : Int × Bool := match Lib.decFrom 0 s.data.toList with
  | some n => if n ≤ 1000000000 ∧ Lib.decDigits n = s.data.toList then ((n : Int), true) else (0, false)
  | none => (0, false)
theorem same_list (l : List UInt8) (s : ByteArray) : (⟨l.toArray⟩ : ByteArray).toList = s.toList ↔ l = s.data.toList := by
  constructor
  · intro h
    have := toList_inj h
    rw [← this]
  · rintro rfl
    rfl
theorem rd_same (s : ByteArray) : rdM s = rdS s := by
  unfold rdM rdS
  by_cases c : ∃ u : Nat, u ≤ 1000000000 ∧ Lib.decDigits u = s.data.toList
  · obtain ⟨u, h, e⟩ := c
    rw [← e, atoi_digits u h, decFrom_digits u]
    show (if (⟨(Lib.itoa (u : Int)).toArray⟩ : ByteArray).toList = s.toList then _ else _) = (if u ≤ 1000000000 ∧ Lib.decDigits u = Lib.decDigits u then _ else _)
    rw [if_pos ((same_list _ _).2 (by rw [Lib.itoa_nonneg, e])), if_pos (by omega), if_pos ⟨h, rfl⟩]
  · have e1 : (match Lib.decFrom 0 s.data.toList with
      | some n => if n ≤ 1000000000 ∧ Lib.decDigits n = s.data.toList then ((n : Int), true) else (0, false)
      | none => (0, false)) = ((0 : Int), false) := by
      cases Lib.decFrom 0 s.data.toList with
      | none => rfl
      | some n => exact if_neg fun h => c ⟨n, h⟩
    rw [e1]
    cases hA : Lib.atoiAll s.data.toList with
    | ok v =>
      show (if (⟨(Lib.itoa v).toArray⟩ : ByteArray).toList = s.toList then (if 0 ≤ v ∧ v ≤ 1000000000 then (v, true) else (0, false)) else (0, false)) = _
      by_cases h1 : (⟨(Lib.itoa v).toArray⟩ : ByteArray).toList = s.toList
      · rw [if_pos h1]
        refine if_neg fun h2 => c ⟨v.toNat, by omega, ?_⟩
        rw [← (same_list _ _).1 h1, ← Lib.itoa_nonneg, Int.toNat_of_nonneg h2.1]
      · exact if_neg h1
    | _ => rfl
theorem bt_at (s : ByteArray) (i : Nat) (h : i < s.size) : ∃ b, s.data.toList[i]? = some b ∧ bt s (i : Int) = (b.toNat : Int) := by
  refine ⟨s[i], ?_, bt_nat s i h⟩
  rw [List.getElem?_eq_getElem (by rw [Array.length_toList]; exact h)]
  rfl
theorem spec_rd (s : ByteArray) (hs : s.size ≤ 10) : ∀ (d i n : Nat), i + d = s.size → Lib.decFrom 0 (s.data.toList.take i) = some n → Ev (fun k => spec_ReadDecimal.l0 k s (n : Int) (i : Int)) (rdS s)
  | 0, i, n, hi, hn => by
    have hl : s.data.toList.take i = s.data.toList := List.take_of_length_le (by rw [Array.length_toList]; show s.size ≤ i; omega)
    rw [hl] at hn
    have hb := Lib.decFrom_lt18 hn (by rw [Array.length_toList]; show s.size ≤ 18; omega)
    refine ev_step ?_
    simp only [spec_ReadDecimal.l0]
    refine ev_neg (by omega) ?_
    unfold rdS
    rw [hn]
    refine ev_if (fun c => ?_) (fun c => ev_bind (spec_dec (n : Int) (by omega) (by omega)) (ev_if (fun c2 => ?_) (fun c2 => ?_)))
    · refine ev_now ?_
      show (_ : Int × Bool) = (if n ≤ 1000000000 ∧ Lib.decDigits n = s.data.toList then _ else _)
      rw [if_neg (by omega)]
    · refine ev_now ?_
      show (_ : Int × Bool) = (if n ≤ 1000000000 ∧ Lib.decDigits n = s.data.toList then _ else _)
      rw [if_pos ⟨by omega, by rw [← (same_list _ _).1 c2, Lib.itoa_nonneg]⟩]
    · refine ev_now ?_
      show (_ : Int × Bool) = (if n ≤ 1000000000 ∧ Lib.decDigits n = s.data.toList then _ else _)
      rw [if_neg fun h => c2 ((same_list _ _).2 (by rw [Lib.itoa_nonneg, h.2]))]
  | d + 1, i, n, hi, hn => by
    obtain ⟨b, hb, eb⟩ := bt_at s i (by omega)
    have hb1 := UInt8.toNat_lt b
    have hl : n < 10000000000 := by
      have h1 := Lib.decFrom_lt _ 0 n hn
      have h2 : (s.data.toList.take i).length ≤ 10 := by rw [List.length_take, Array.length_toList]; show min i s.size ≤ 10; omega
      have h3 : 10 ^ (s.data.toList.take i).length ≤ 10 ^ 10 := Nat.pow_le_pow_right (by decide) h2
      omega
    have fail : ¬ (48 ≤ b.toNat ∧ b.toNat ≤ 57) → rdS s = (0, false) := by
      intro h
      unfold rdS
      cases hd : Lib.decFrom 0 s.data.toList with
      | none => rfl
      | some m =>
        obtain ⟨x, hx⟩ := Lib.digit_of_decFrom _ _ _ hd i b hb
        have := Lib.digitVal_eq hx
        exact absurd ⟨this.1, this.2.1⟩ h
    refine ev_step ?_
    simp only [spec_ReadDecimal.l0]
    rw [eb, w64 (x := (b.toNat : Int)) (by omega) (by omega), w64 (x := 10 * (n : Int)) (by omega) (by omega), w64 (x := 10 * (n : Int) + (b.toNat : Int)) (by omega) (by omega), w64 (x := 10 * (n : Int) + (b.toNat : Int) - 48) (by omega) (by omega), next64 i (by omega)]
    refine ev_pos (by omega) (ev_pos (by omega) (ev_if (fun c => ?_) (fun c => ev_if (fun c2 => ?_) (fun c2 => ?_))))
    · rw [fail (by omega)]; exact Ev.now _
    · rw [fail (by omega)]; exact Ev.now _
    · have hd : Lib.digitVal b = some (b.toNat - 48) := by unfold Lib.digitVal; exact if_pos (by omega)
      have hs2 := Lib.decFrom_take _ i 0 n b _ hn hb hd
      have ih := spec_rd s hs d (i + 1) (n * 10 + (b.toNat - 48)) (by omega) hs2
      have e : ((n * 10 + (b.toNat - 48) : Nat) : Int) = 10 * (n : Int) + (b.toNat : Int) - 48 := by omega
      rw [e] at ih
      exact ih
theorem spec_readDec (s : ByteArray) : Ev (fun k => spec_ReadDecimal.f k s) (rdM s) := by
  unfold spec_ReadDecimal.f
  rw [rd_same]
  refine ev_if (fun c => ?_) (fun c => ?_)
  · refine ev_now ?_
    unfold rdS
    cases hd : Lib.decFrom 0 s.data.toList with
    | none => rfl
    | some n =>
      show (_ : Int × Bool) = (if n ≤ 1000000000 ∧ Lib.decDigits n = s.data.toList then _ else _)
      rw [if_neg]
      rintro ⟨h1, h2⟩
      have h3 := digits_len n h1
      rw [h2, Array.length_toList] at h3
      have h3 : s.size ≤ 10 := h3
      omega
  · exact spec_rd s (by omega) s.size 0 0 (by omega) rfl

end Go.Proofs.YtcclceohmkojgaaDoor.QFnExactReadDecimal
