/- The law FnExactUnhex answers true at every text. Conditions: the text's length as the row gives it. -/
import Derived.Test.YtdbmagdidkdeoaaQFnExactUnhexx1
import Derived.Test.YtdbmagdidkdeoaaAid
namespace Go.Proofs.Ytdbmagdidkdeoaa.QFnExactUnhex
open Go.RowKit Go.Proofs.YtdbmagdidkdeoaaW.PrintWords Go.Proofs.YtdbmagdidkdeoaaW.PrintLast Go.Proofs.Ytdbmagdidkdeoaa.Aid Go.Proofs.Ytdbmagdidkdeoaa.Sf
set_option linter.unusedVariables false
def valM (c : Int) : Int := if 48 ≤ c ∧ c ≤ 57 then c - 48 else if 97 ≤ c ∧ c ≤ 102 then c - 87 else -1
theorem valM_range (c : Int) : -1 ≤ valM c ∧ valM c ≤ 15 := by
  unfold valM
  split
  · omega
  · split <;> omega
theorem valM_dec (c : Int) (h : 48 ≤ c ∧ c ≤ 57) : valM c = c - 48 := by unfold valM; rw [if_pos h]
theorem valM_let (c : Int) (h1 : ¬ (48 ≤ c ∧ c ≤ 57)) (h : 97 ≤ c ∧ c ≤ 102) : valM c = c - 87 := by unfold valM; rw [if_neg h1, if_pos h]
theorem valM_no (c : Int) (h1 : ¬ (48 ≤ c ∧ c ≤ 57)) (h : ¬ (97 ≤ c ∧ c ≤ 102)) : valM c = -1 := by unfold valM; rw [if_neg h1, if_neg h]
theorem value_ok (c : Int) (h0 : 0 ≤ c) (h1 : c ≤ 255) : Ev (fun k => spec_l01Value.f k c) (valM c) := by
  unfold spec_l01Value.f
  have w1 : wrap64 c = c := w64 (by omega) (by omega)
  have w2 : wrap64 (c - 48) = c - 48 := w64 (by omega) (by omega)
  have w3 : wrap64 (c - 97) = c - 97 := w64 (by omega) (by omega)
  have w4 : wrap64 (c - 97 + 10) = c - 87 := by rw [w64 (by omega) (by omega)]; omega
  by_cases a1 : c ≥ 48
  · refine ev_pos a1 (ev_step ?_)
    simp only [spec_l01Value.j0]
    rw [w1, w2, w3, w4]
    clear w1 w2 w3 w4
    by_cases a2 : c ≤ 57
    · rw [decide_eq_true a2, valM_dec c ⟨a1, a2⟩]
      exact ev_pos (by first | rfl | trivial) (Ev.now _)
    · rw [decide_eq_false a2]
      refine ev_neg (by decide) ?_
      by_cases a3 : c ≥ 97
      · refine ev_pos a3 ?_
        by_cases a4 : c ≤ 102
        · rw [valM_let c (fun h => a2 h.2) ⟨a3, a4⟩]
          exact ev_pos a4 (Ev.now _)
        · rw [valM_no c (fun h => a2 h.2) (fun h => a4 h.2)]
          exact ev_neg a4 (Ev.now _)
      · rw [valM_no c (fun h => a2 h.2) (fun h => a3 h.1)]
        exact ev_neg a3 (Ev.now _)
  · refine ev_neg a1 (ev_step ?_)
    simp only [spec_l01Value.j0]
    clear w1 w2 w3 w4
    rw [valM_no c (fun h => a1 h.1) (fun h => by omega)]
    exact ev_neg (by decide) (ev_neg (by omega) (Ev.now _))
set_option maxRecDepth 20000 in
theorem index_all : ∀ n : Fin 256, Lib.indexByte [48, 49, 50, 51, 52, 53, 54, 55, 56, 57, 97, 98, 99, 100, 101, 102] n.val.toUInt8 = valM (n.val : Int) := by decide +kernel
theorem index_ok (c : Int) (h0 : 0 ≤ c) (h1 : c ≤ 255) : strings_IndexByte.f (⟨#[48, 49, 50, 51, 52, 53, 54, 55, 56, 57, 97, 98, 99, 100, 101, 102]⟩ : ByteArray) c = some (valM c) := by
  unfold strings_IndexByte.f
  have h := index_all ⟨c.toNat, by omega⟩
  have e : ((c.toNat : Nat) : Int) = c := by omega
  rw [show ((⟨c.toNat, by omega⟩ : Fin 256).val : Int) = c from e] at h
  exact congrArg some h
def unhexL (s : ByteArray) : Nat → Nat → List Int → ByteArray × Bool
  | 0, _, acc => (strOfNums acc, true)
  | d + 1, i, acc => if valM (bt s (i : Int)) < 0 ∨ valM (bt s ((i + 1 : Nat) : Int)) < 0 then ((⟨#[]⟩ : ByteArray), false) else unhexL s d (i + 2) (acc ++ [(16 * valM (bt s (i : Int)) + valM (bt s ((i + 1 : Nat) : Int))) % 256])
def unhexM (s : ByteArray) : ByteArray × Bool := if s.size > 40000 ∨ s.size % 2 = 1 then ((⟨#[]⟩ : ByteArray), false) else unhexL s (s.size / 2) 0 []
theorem spec_unhex0 (s : ByteArray) (hs : s.size ≤ 40000) : ∀ (d i : Nat) (acc : List Int), i + 2 * d = s.size → acc.length ≤ i → Ev (fun k => spec_Unhex.l0 k s acc (i : Int)) (unhexL s d i acc)
  | 0, i, acc, e, hl => by
    refine ev_step ?_
    simp only [spec_Unhex.l0]
    exact ev_neg (by omega) (Ev.now _)
  | d + 1, i, acc, e, hl => by
    have b1 := bt_range s (i : Int)
    have b2 := bt_range s ((i + 1 : Nat) : Int)
    have v1 := value_ok _ b1.1 (by omega)
    have v2 := value_ok _ b2.1 (by omega)
    have r1 := valM_range (bt s (i : Int))
    have r2 := valM_range (bt s ((i + 1 : Nat) : Int))
    have ih := spec_unhex0 s hs d (i + 2) (acc ++ [(16 * valM (bt s (i : Int)) + valM (bt s ((i + 1 : Nat) : Int))) % 256]) (by omega) (by simp; omega)
    have n1 : wrap64 ((i : Int) + 1) = ((i + 1 : Nat) : Int) := next64 i (by omega)
    have n2 : wrap64 ((i : Int) + 2) = ((i + 2 : Nat) : Int) := by rw [w64 (by omega) (by omega)]; omega
    refine ev_step ?_
    simp only [spec_Unhex.l0]
    rw [n1, n2, unhexL]
    generalize valM (bt s (i : Int)) = x at v1 r1 ih
    generalize valM (bt s ((i + 1 : Nat) : Int)) = y at v2 r2 ih
    clear n1 n2 b1 b2
    refine ev_pos (by omega) (ev_pos (by omega) (ev_bind v1 (ev_pos (by omega) (ev_pos (by omega) (ev_bind v2 ?_)))))
    by_cases c1 : x < 0
    · rw [if_pos (Or.inl c1)]
      exact ev_pos c1 (Ev.now _)
    · by_cases c2 : y < 0
      · rw [if_pos (Or.inr c2)]
        exact ev_neg c1 (ev_pos c2 (Ev.now _))
      · rw [if_neg (fun h => h.elim c1 c2), w64 (x := 16 * x) (by omega) (by omega), w64 (x := 16 * x + y) (by omega) (by omega)]
        exact ev_neg c1 (ev_neg c2 (ev_pos (by omega) ih))
theorem impl_unhex0 (s : ByteArray) (hs : s.size ≤ 40000) : ∀ (d i : Nat) (acc : List Int) (half : Int), i + 2 * d = s.size → acc.length ≤ i → i % 2 = 0 → Ev (fun k => impl_Unhex.l0 k s acc half (i : Int)) (unhexL s d i acc)
  | 0, i, acc, half, e, hl, hp => by
    refine ev_step ?_
    simp only [impl_Unhex.l0]
    exact ev_neg (by omega) (Ev.now _)
  | d + 1, i, acc, half, e, hl, hp => by
    have b1 := bt_range s (i : Int)
    have b2 := bt_range s ((i + 1 : Nat) : Int)
    have v1 := index_ok _ b1.1 (by omega)
    have v2 := index_ok _ b2.1 (by omega)
    have r1 := valM_range (bt s (i : Int))
    have r2 := valM_range (bt s ((i + 1 : Nat) : Int))
    have ih := fun z => impl_unhex0 s hs d (i + 2) (acc ++ [(16 * valM (bt s (i : Int)) + valM (bt s ((i + 1 : Nat) : Int))) % 256]) z (by omega) (by simp; omega) (by omega)
    have n1 : wrap64 ((i : Int) + 1) = ((i + 1 : Nat) : Int) := next64 i (by omega)
    have n2 : wrap64 (((i + 1 : Nat) : Int) + 1) = ((i + 2 : Nat) : Int) := next64 (i + 1) (by omega)
    have t1 : ¬ Int.tmod (i : Int) 2 = 1 := by rw [show Int.tmod (i : Int) 2 = ((i % 2 : Nat) : Int) from rfl]; omega
    have t2 : Int.tmod ((i + 1 : Nat) : Int) 2 = 1 := by rw [show Int.tmod ((i + 1 : Nat) : Int) 2 = (((i + 1) % 2 : Nat) : Int) from rfl]; omega
    refine ev_step ?_
    simp only [impl_Unhex.l0]
    rw [n1, unhexL]
    generalize hX : valM (bt s (i : Int)) = x at v1 r1 ih
    generalize hY : valM (bt s ((i + 1 : Nat) : Int)) = y at v2 r2 ih
    clear hX hY b1 b2 n1
    refine ev_pos (by omega) (ev_pos (by omega) (ev_cbind v1 ?_))
    by_cases c1 : x < 0
    · rw [if_pos (Or.inl c1)]
      exact ev_pos c1 (Ev.now _)
    · refine ev_neg c1 (ev_neg t1 (ev_step ?_))
      simp only [impl_Unhex.l0]
      rw [n2]
      clear n2
      refine ev_pos (by omega) (ev_pos (by omega) (ev_cbind v2 ?_))
      by_cases c2 : y < 0
      · rw [if_pos (Or.inr c2)]
        exact ev_pos c2 (Ev.now _)
      · rw [if_neg (fun h => h.elim c1 c2), w64 (x := 16 * x) (by omega) (by omega), w64 (x := 16 * x + y) (by omega) (by omega)]
        exact ev_neg c2 (ev_pos t2 (ev_pos (by omega) (ih y)))
theorem spec_unhex (s : ByteArray) : Ev (fun k => spec_Unhex.f k s) (unhexM s) := by
  unfold spec_Unhex.f unhexM
  by_cases c : (s.size : Int) > 40000
  · rw [if_pos (Or.inl (by omega))]
    refine ev_pos c (ev_step ?_)
    simp only [spec_Unhex.j0]
    exact ev_pos (by first | rfl | trivial) (Ev.now _)
  · refine ev_neg c (ev_step ?_)
    simp only [spec_Unhex.j0]
    by_cases c2 : s.size % 2 = 1
    · rw [if_pos (Or.inr c2)]
      exact ev_pos (bne_iff_ne.2 (by omega)) (Ev.now _)
    · rw [if_neg (fun h => h.elim (by omega) c2)]
      refine ev_neg (fun h => bne_iff_ne.1 h (by omega)) ?_
      exact spec_unhex0 s (by omega) (s.size / 2) 0 [] (by omega) (by simp)
theorem impl_unhex (s : ByteArray) : Ev (fun k => impl_Unhex.f k s) (unhexM s) := by
  unfold impl_Unhex.f unhexM
  by_cases c2 : s.size % 2 = 1
  · rw [if_pos (Or.inr c2)]
    refine ev_pos (by omega) (ev_step ?_)
    simp only [impl_Unhex.j0]
    exact ev_pos (by first | rfl | trivial) (Ev.now _)
  · refine ev_neg (by omega) (ev_step ?_)
    simp only [impl_Unhex.j0]
    by_cases c : (s.size : Int) > 40000
    · rw [if_pos (Or.inl (by omega))]
      exact ev_pos (decide_eq_true c) (Ev.now _)
    · rw [if_neg (fun h => h.elim (by omega) c2)]
      refine ev_neg (by rw [decide_eq_true_eq]; exact c) ?_
      exact impl_unhex0 s (by omega) (s.size / 2) 0 [] 0 (by omega) (by simp) (by omega)
theorem holds : laws_FnExactUnhex.Pure := by
  intro s _
  refine ev_at ?_
  unfold laws_FnExactUnhex.f
  refine ev_if (fun _ => Ev.now _) (fun _ => ?_)
  exact ev_bind (spec_unhex s) (ev_bind (impl_unhex s) (ev_pos (by first | rfl | trivial) (ev_neg (by simp) (Ev.now _))))
end Go.Proofs.Ytdbmagdidkdeoaa.QFnExactUnhex
namespace Go.Proofs.Ytdbmagdidkdeoaa.Pure
theorem FnExactUnhex : QFnExactUnhex.laws_FnExactUnhex.Pure := QFnExactUnhex.holds
end Go.Proofs.Ytdbmagdidkdeoaa.Pure
