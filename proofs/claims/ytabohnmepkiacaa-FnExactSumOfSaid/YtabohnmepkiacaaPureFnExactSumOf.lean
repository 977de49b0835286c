/- The law FnExactSumOf answers true at every text. Conditions: the text's size as the row gives it. -/
import Derived.Test.YtabohnmepkiacaaPFnExactSumOfx1
import Derived.Test.YtabohnmepkiacaaAid
namespace Go.Proofs.Ytabohnmepkiacaa.Pure
open Go.RowKit Go.Proofs.Ytabohnmepkiacaa.PFnExactSumOf Go.Proofs.YtabohnmepkiacaaW.PrintWords Go.Proofs.YtabohnmepkiacaaW.PrintLast Go.Proofs.Ytabohnmepkiacaa.Aid

/-- One half step of a sum. -/
def sumHalf (x : Int) : Int := if (Int.tmod x 2) = 1 then (Go.bits .xor .u32 ((Int.tdiv x 2) % 4294967296) 3558460437) else ((Int.tdiv x 2) % 4294967296)
def halves : Nat → Int → Int
  | 0, x => x
  | n + 1, x => halves n (sumHalf x)
def sumByte (x b : Int) : Int := halves 8 (Go.bits .xor .u32 x (b % 4294967296))
/-- The sum from a place on. -/
def sumFrom (s : ByteArray) : Nat → Nat → Int → Int
  | 0, _, x => x
  | d + 1, i, x => sumFrom s d (i + 1) (sumByte x (bt s i))

theorem spec_sum1 (s : ByteArray) (i : Int) (r : Int) : ∀ (j : Nat) (x : Int), j ≤ 8 → Ev (fun k => spec_SumMore.l0 k (halves j x) s (wrap64 (i + 1))) r → Ev (fun k => spec_SumMore.l1 k x s i (8 - (j : Int))) r := by
  intro j
  induction j with
  | zero =>
    intro x _ h
    refine ev_step ?_
    simp only [spec_SumMore.l1]
    exact ev_neg (by omega) h
  | succ j ih =>
    intro x hj h
    refine ev_step ?_
    simp only [spec_SumMore.l1]
    have e : wrap64 (8 - ((j + 1 : Nat) : Int) + 1) = 8 - (j : Int) := by rw [w64 (by omega) (by omega)]; omega
    rw [e]
    refine ev_pos (by omega) (ev_if (fun hc => ?_) (fun hc => ?_))
    · refine ih _ (by omega) ?_
      have e2 : halves (j + 1) x = halves j (Go.bits .xor .u32 ((Int.tdiv x 2) % 4294967296) 3558460437) := by simp only [halves, sumHalf, if_pos hc]
      rw [← e2]; exact h
    · refine ih _ (by omega) ?_
      have e2 : halves (j + 1) x = halves j ((Int.tdiv x 2) % 4294967296) := by simp only [halves, sumHalf, if_neg hc]
      rw [← e2]; exact h
theorem spec_sum0 (s : ByteArray) (hs : s.size ≤ 140737488351232) : ∀ (d i : Nat) (x : Int), i + d = s.size → Ev (fun k => spec_SumMore.l0 k x s i) (sumFrom s d i x) := by
  intro d
  induction d with
  | zero =>
    intro i x hi
    refine ev_step ?_
    simp only [spec_SumMore.l0]
    exact ev_neg (by omega) (Ev.now _)
  | succ d ih =>
    intro i x hi
    refine ev_step ?_
    simp only [spec_SumMore.l0]
    refine ev_pos (by omega) (ev_pos (by omega) ?_)
    have e : wrap64 ((i : Int) + 1) = ((i + 1 : Nat) : Int) := by rw [w64 (by omega) (by omega)]; omega
    refine spec_sum1 s i _ 8 _ (by omega) ?_
    rw [e]
    exact ih (i + 1) _ (by omega)
theorem spec_sum (s : ByteArray) (hs : s.size ≤ 140737488351232) (x : Int) : Ev (fun k => spec_SumMore.f k x s) (sumFrom s s.size 0 x) := spec_sum0 s hs s.size 0 x (by omega)

theorem impl_sum1 (s : ByteArray) (i : Int) (r : Int) : ∀ (j : Nat) (x : Int), j ≤ 8 → Ev (fun k => impl_SumMore.l0 k (halves j x) s (wrap64 (i + 1))) r → Ev (fun k => impl_SumMore.l1 k x s i (8 - (j : Int))) r := by
  intro j
  induction j with
  | zero =>
    intro x _ h
    refine ev_step ?_
    simp only [impl_SumMore.l1]
    exact ev_neg (by omega) h
  | succ j ih =>
    intro x hj h
    refine ev_step ?_
    simp only [impl_SumMore.l1]
    have e : wrap64 (8 - ((j + 1 : Nat) : Int) + 1) = 8 - (j : Int) := by rw [w64 (by omega) (by omega)]; omega
    rw [e]
    refine ev_pos (by omega) (ev_if (fun hc => ?_) (fun hc => ?_))
    · refine ih _ (by omega) ?_
      have e2 : halves (j + 1) x = halves j (Go.bits .xor .u32 ((Int.tdiv x 2) % 4294967296) 3558460437) := by simp only [halves, sumHalf, if_pos hc]
      rw [← e2]; exact h
    · refine ih _ (by omega) ?_
      have e2 : halves (j + 1) x = halves j ((Int.tdiv x 2) % 4294967296) := by simp only [halves, sumHalf, if_neg hc]
      rw [← e2]; exact h
theorem impl_sum0 (s : ByteArray) (hs : s.size ≤ 140737488351232) : ∀ (d i : Nat) (x : Int), i + d = s.size → Ev (fun k => impl_SumMore.l0 k x s i) (sumFrom s d i x) := by
  intro d
  induction d with
  | zero =>
    intro i x hi
    refine ev_step ?_
    simp only [impl_SumMore.l0]
    exact ev_neg (by omega) (Ev.now _)
  | succ d ih =>
    intro i x hi
    refine ev_step ?_
    simp only [impl_SumMore.l0]
    refine ev_pos (by omega) (ev_pos (by omega) ?_)
    have e : wrap64 ((i : Int) + 1) = ((i + 1 : Nat) : Int) := by rw [w64 (by omega) (by omega)]; omega
    refine impl_sum1 s i _ 8 _ (by omega) ?_
    rw [e]
    exact ih (i + 1) _ (by omega)
theorem impl_sum (s : ByteArray) (hs : s.size ≤ 140737488351232) (x : Int) : Ev (fun k => impl_SumMore.f k x s) (sumFrom s s.size 0 x) := impl_sum0 s hs s.size 0 x (by omega)

theorem spec_sumOf (s : ByteArray) (hs : s.size ≤ 140737488351232) : Ev (fun k => spec_SumOf.f k s) (sumFrom s s.size 0 4294967295) := by
  unfold spec_SumOf.f
  exact ev_bind (spec_sum s hs _) (Ev.now _)

theorem impl_sumOf (s : ByteArray) (hs : s.size ≤ 140737488351232) : Ev (fun k => impl_SumOf.f k s) (sumFrom s s.size 0 4294967295) := by
  unfold impl_SumOf.f
  exact ev_bind (impl_sum s hs _) (Ev.now _)

theorem FnExactSumOf : laws_FnExactSumOf.Pure := by
  intro s hs
  refine ev_at ?_
  unfold laws_FnExactSumOf.f
  exact ev_if (fun _ => Ev.now _) (fun _ => ev_bind (spec_sumOf s hs) (ev_bind (impl_sumOf s hs) (ev_pos rfl (Ev.now _))))

end Go.Proofs.Ytabohnmepkiacaa.Pure
