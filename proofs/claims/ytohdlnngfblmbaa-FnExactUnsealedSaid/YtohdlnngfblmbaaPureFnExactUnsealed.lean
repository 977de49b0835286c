/- The law FnExactUnsealed answers true at every text. Conditions: the text's size as the row gives it. -/
import Derived.Test.YtohdlnngfblmbaaPFnExactUnsealedx2
import Derived.Test.YtohdlnngfblmbaaAid
namespace Go.Proofs.Ytohdlnngfblmbaa.Pure
open Go.RowKit Go.Proofs.Ytohdlnngfblmbaa.PFnExactUnsealed Go.Proofs.YtohdlnngfblmbaaW.PrintWords Go.Proofs.YtohdlnngfblmbaaW.PrintLast Go.Proofs.Ytohdlnngfblmbaa.Aid

/-- One half step of a sum. -/
def sumHalf (x : Int) : Int := if (Int.tmod x 2) = 1 then (Go.bits .xor .u32 ((Int.tdiv x 2) % 4294967296) 3558460437) else ((Int.tdiv x 2) % 4294967296)
def halves : Nat → Int → Int
  | 0, x => x
  | n + 1, x => halves n (sumHalf x)
def sumByte (x b : Int) : Int := halves 8 (Go.bits .xor .u32 x (b % 4294967296))
/-- The sum from a place on. -/
def sumFrom (s : ByteArray) : Nat → Nat → Int → Int
  | 0, _, x => x
  | d + 1, i, x => sumFrom s d (i + 1) (sumByte x (bt s i))

theorem spec_sum1 (s : ByteArray) (i : Int) (r : Int) : ∀ (j : Nat) (x : Int), j ≤ 8 → Ev (fun k => spec_SumMore.l0 k (halves j x) s (wrap64 (i + 1))) r → Ev (fun k => spec_SumMore.l1 k x s i (8 - (j : Int))) r := by
  intro j
  induction j with
  | zero =>
    intro x _ h
    refine ev_step ?_
    simp only [spec_SumMore.l1]
    exact ev_neg (by omega) h
  | succ j ih =>
    intro x hj h
    refine ev_step ?_
    simp only [spec_SumMore.l1]
    have e : wrap64 (8 - ((j + 1 : Nat) : Int) + 1) = 8 - (j : Int) := by rw [w64 (by omega) (by omega)]; omega
    rw [e]
    refine ev_pos (by omega) (ev_if (fun hc => ?_) (fun hc => ?_))
    · refine ih _ (by omega) ?_
      have e2 : halves (j + 1) x = halves j (Go.bits .xor .u32 ((Int.tdiv x 2) % 4294967296) 3558460437) := by simp only [halves, sumHalf, if_pos hc]
      rw [← e2]; exact h
    · refine ih _ (by omega) ?_
      have e2 : halves (j + 1) x = halves j ((Int.tdiv x 2) % 4294967296) := by simp only [halves, sumHalf, if_neg hc]
      rw [← e2]; exact h
theorem spec_sum0 (s : ByteArray) (hs : s.size ≤ 140737488351232) : ∀ (d i : Nat) (x : Int), i + d = s.size → Ev (fun k => spec_SumMore.l0 k x s i) (sumFrom s d i x) := by
  intro d
  induction d with
  | zero =>
    intro i x hi
    refine ev_step ?_
    simp only [spec_SumMore.l0]
    exact ev_neg (by omega) (Ev.now _)
  | succ d ih =>
    intro i x hi
    refine ev_step ?_
    simp only [spec_SumMore.l0]
    refine ev_pos (by omega) (ev_pos (by omega) ?_)
    have e : wrap64 ((i : Int) + 1) = ((i + 1 : Nat) : Int) := by rw [w64 (by omega) (by omega)]; omega
    refine spec_sum1 s i _ 8 _ (by omega) ?_
    rw [e]
    exact ih (i + 1) _ (by omega)
theorem spec_sum (s : ByteArray) (hs : s.size ≤ 140737488351232) (x : Int) : Ev (fun k => spec_SumMore.f k x s) (sumFrom s s.size 0 x) := spec_sum0 s hs s.size 0 x (by omega)

theorem impl_sum1 (s : ByteArray) (i : Int) (r : Int) : ∀ (j : Nat) (x : Int), j ≤ 8 → Ev (fun k => impl_SumMore.l0 k (halves j x) s (wrap64 (i + 1))) r → Ev (fun k => impl_SumMore.l1 k x s i (8 - (j : Int))) r := by
  intro j
  induction j with
  | zero =>
    intro x _ h
    refine ev_step ?_
    simp only [impl_SumMore.l1]
    exact ev_neg (by omega) h
  | succ j ih =>
    intro x hj h
    refine ev_step ?_
    simp only [impl_SumMore.l1]
    have e : wrap64 (8 - ((j + 1 : Nat) : Int) + 1) = 8 - (j : Int) := by rw [w64 (by omega) (by omega)]; omega
    rw [e]
    refine ev_pos (by omega) (ev_if (fun hc => ?_) (fun hc => ?_))
    · refine ih _ (by omega) ?_
      have e2 : halves (j + 1) x = halves j (Go.bits .xor .u32 ((Int.tdiv x 2) % 4294967296) 3558460437) := by simp only [halves, sumHalf, if_pos hc]
      rw [← e2]; exact h
    · refine ih _ (by omega) ?_
      have e2 : halves (j + 1) x = halves j ((Int.tdiv x 2) % 4294967296) := by simp only [halves, sumHalf, if_neg hc]
      rw [← e2]; exact h
theorem impl_sum0 (s : ByteArray) (hs : s.size ≤ 140737488351232) : ∀ (d i : Nat) (x : Int), i + d = s.size → Ev (fun k => impl_SumMore.l0 k x s i) (sumFrom s d i x) := by
  intro d
  induction d with
  | zero =>
    intro i x hi
    refine ev_step ?_
    simp only [impl_SumMore.l0]
    exact ev_neg (by omega) (Ev.now _)
  | succ d ih =>
    intro i x hi
    refine ev_step ?_
    simp only [impl_SumMore.l0]
    refine ev_pos (by omega) (ev_pos (by omega) ?_)
    have e : wrap64 ((i : Int) + 1) = ((i + 1 : Nat) : Int) := by rw [w64 (by omega) (by omega)]; omega
    refine impl_sum1 s i _ 8 _ (by omega) ?_
    rw [e]
    exact ih (i + 1) _ (by omega)
theorem impl_sum (s : ByteArray) (hs : s.size ≤ 140737488351232) (x : Int) : Ev (fun k => impl_SumMore.f k x s) (sumFrom s s.size 0 x) := impl_sum0 s hs s.size 0 x (by omega)

theorem spec_sumOf (s : ByteArray) (hs : s.size ≤ 140737488351232) : Ev (fun k => spec_SumOf.f k s) (sumFrom s s.size 0 4294967295) := by
  unfold spec_SumOf.f
  exact ev_bind (spec_sum s hs _) (Ev.now _)

theorem impl_sumOf (s : ByteArray) (hs : s.size ≤ 140737488351232) : Ev (fun k => impl_SumOf.f k s) (sumFrom s s.size 0 4294967295) := by
  unfold impl_SumOf.f
  exact ev_bind (impl_sum s hs _) (Ev.now _)

/-- A sum in four bytes. -/
def four (x : Int) : ByteArray := strOfNums (([(x / 16777216) % 256, (x / 65536) % 256, (x / 256) % 256, (x) % 256] : List Int))
theorem four_size (x : Int) : (four x).size = 4 := by unfold four; rw [strOfNums_size]; rfl
def sumOf (s : ByteArray) : Int := sumFrom s s.size 0 4294967295
def sealedM (s : ByteArray) : ByteArray × Bool := if s.size > 20000 then ((⟨#[]⟩ : ByteArray), false) else (s ++ four (sumOf s), true)

theorem impl_sealed (s : ByteArray) (hs : s.size ≤ 140737488351232) : Ev (fun k => impl_Sealed.f k s) (sealedM s) := by
  unfold impl_Sealed.f sealedM
  by_cases h : s.size > 20000
  · rw [if_pos h]; exact ev_pos (by omega) (Ev.now _)
  · rw [if_neg h]
    refine ev_neg (by omega) (ev_bind (impl_sumOf s hs) (ev_cbind rfl (ev_pos ?_ (Ev.now _))))
    rw [strOfNums_size]; simp; omega

/-- The first bytes of a text, and the rest. -/
theorem extract_split (s : ByteArray) (n : Nat) (h : n ≤ s.size) : s.extract 0 n ++ s.extract n s.size = s := by
  rw [ByteArray.extract_append_extract]
  have e1 : min 0 n = 0 := by omega
  have e2 : max n s.size = s.size := by omega
  rw [e1, e2, ByteArray.extract_zero_size]
theorem toList_inj {a b : ByteArray} (h : a.toList = b.toList) : a = b := by
  rw [ByteArray.toList_eq, ByteArray.toList_eq] at h
  exact ByteArray.ext (Array.toList_inj.1 h)
theorem toList_iff {a b : ByteArray} : a.toList = b.toList ↔ a = b := ⟨toList_inj, fun h => by rw [h]⟩
def unsealedM (s : ByteArray) : ByteArray × Bool := if s.size < 4 ∨ s.size > 20004 then ((⟨#[]⟩ : ByteArray), false) else if s.extract (s.size - 4) s.size = four (sumOf (s.extract 0 (s.size - 4))) then (s.extract 0 (s.size - 4), true) else ((⟨#[]⟩ : ByteArray), false)
theorem spec_unsealed (s : ByteArray) (hs : s.size ≤ 140737488351232) : Ev (fun k => spec_Unsealed.f k s) (unsealedM s) := by
  unfold spec_Unsealed.f unsealedM
  rw [w64 (x := (s.size : Int) - 4) (by omega) (by omega)]
  by_cases h1 : s.size < 4
  · rw [if_pos (.inl h1)]; exact ev_pos (by omega) (Ev.now _)
  · by_cases h2 : s.size > 20004
    · rw [if_pos (.inr h2)]; exact ev_neg (by omega) (ev_pos (by omega) (Ev.now _))
    · have e : ((s.size : Int) - 4 : Int).toNat = s.size - 4 := by omega
      rw [if_neg (by omega), e]
      have hz : (s.extract 0 (s.size - 4)).size = s.size - 4 := by rw [ByteArray.size_extract]; omega
      have b := spec_sumOf (s.extract 0 (s.size - 4)) (by omega)
      refine ev_neg (by omega) (ev_neg (by omega) (ev_pos (by omega) (ev_pos (by omega) (ev_bind b (ev_cbind (a := four (sumOf (s.extract 0 (s.size - 4)))) rfl (ev_if (fun c => ?_) (fun c => ?_)))))))
      · rw [if_pos (toList_inj c)]; exact Ev.now _
      · rw [if_neg (fun h => c (toList_iff.2 h))]; exact Ev.now _
theorem impl_unsealed (s : ByteArray) (hs : s.size ≤ 140737488351232) : Ev (fun k => impl_Unsealed.f k s) (unsealedM s) := by
  unfold impl_Unsealed.f unsealedM
  rw [w64 (x := (s.size : Int) - 4) (by omega) (by omega)]
  by_cases h1 : s.size < 4
  · rw [if_pos (.inl h1)]; exact ev_pos (by omega) (Ev.now _)
  · have e : ((s.size : Int) - 4 : Int).toNat = s.size - 4 := by omega
    rw [e]
    have hz : (s.extract 0 (s.size - 4)).size = s.size - 4 := by rw [ByteArray.size_extract]; omega
    have b := impl_sealed (s.extract 0 (s.size - 4)) (by omega)
    refine ev_neg (by omega) (ev_pos (by omega) (ev_pos (by omega) (ev_bind b ?_)))
    by_cases h2 : s.size > 20004
    · rw [if_pos (show s.size < 4 ∨ s.size > 20004 from .inr h2)]
      have e2 : sealedM (s.extract 0 (s.size - 4)) = ((⟨#[]⟩ : ByteArray), false) := by unfold sealedM; rw [if_pos (by omega)]
      rw [e2]
      exact ev_neg (by simp) (Ev.now _)
    · have e2 : sealedM (s.extract 0 (s.size - 4)) = (s.extract 0 (s.size - 4) ++ four (sumOf (s.extract 0 (s.size - 4))), true) := by unfold sealedM; rw [if_neg (by omega)]
      rw [if_neg (show ¬ (s.size < 4 ∨ s.size > 20004) by omega), e2]
      have hsp := extract_split s (s.size - 4) (by omega)
      refine ev_pos rfl (ev_if (fun c => ?_) (fun c => ?_))
      · have c2 : s.extract 0 (s.size - 4) ++ four (sumOf (s.extract 0 (s.size - 4))) = s.extract 0 (s.size - 4) ++ s.extract (s.size - 4) s.size := by rw [hsp]; exact toList_inj c
        rw [if_pos ((ByteArray.append_right_inj _).1 c2).symm]; exact Ev.now _
      · rw [if_neg (fun h => c (by show (s.extract 0 (s.size - 4) ++ four (sumOf (s.extract 0 (s.size - 4)))).toList = s.toList; rw [← h, hsp]))]; exact Ev.now _

theorem FnExactUnsealed : laws_FnExactUnsealed.Pure := by
  intro s hs
  refine ev_at ?_
  unfold laws_FnExactUnsealed.f
  exact ev_if (fun _ => Ev.now _) (fun _ => ev_bind (spec_unsealed s hs) (ev_bind (impl_unsealed s hs) (ev_pos rfl (ev_neg (by simp) (Ev.now _)))))

end Go.Proofs.Ytohdlnngfblmbaa.Pure
