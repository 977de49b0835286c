/- The law FnExactShortText answers true at every text. Conditions: the text's size as the row gives it. -/
import Derived.Test.YtabohnmepkiacaaPFnExactShortTextx1
import Derived.Test.YtabohnmepkiacaaAid
namespace Go.Proofs.Ytabohnmepkiacaa.Pure
open Go.RowKit Go.Proofs.Ytabohnmepkiacaa.PFnExactShortText Go.Proofs.YtabohnmepkiacaaW.PrintWords Go.Proofs.YtabohnmepkiacaaW.PrintLast Go.Proofs.Ytabohnmepkiacaa.Aid

/-- A number's bytes, seven bits each. -/
def varL (n : Nat) : List Int := if n > 127 then ((n % 128 + 128 : Nat) : Int) :: varL (n / 128) else [(n : Int)]
termination_by n
decreasing_by omega

def varText (n : Int) : ByteArray × Bool := if 0 ≤ n ∧ n ≤ 1000000000 then (strOfNums (varL n.toNat), true) else ((⟨#[]⟩ : ByteArray), false)
theorem spec_var0 : ∀ (n : Nat) (acc : List Int), acc.length + n < 140737488355000 → Ev (fun k => spec_l01Var.l0 k (n : Int) acc) (strOfNums (acc ++ varL n)) := by
  intro n
  induction n using Nat.strongRecOn with
  | _ n ih =>
    intro acc hb
    refine ev_step ?_
    simp only [spec_l01Var.l0]
    by_cases h : n > 127
    · refine ev_pos (by omega) (ev_pos (by omega) ?_)
      have e1 : wrap64 (Int.tdiv (n : Int) 128) = ((n / 128 : Nat) : Int) := by
        rw [show Int.tdiv (n : Int) 128 = ((n / 128 : Nat) : Int) from rfl, w64 (by omega) (by omega)]
      have e2 : (wrap64 ((Int.tmod (n : Int) 128) + 128)) % 256 = ((n % 128 + 128 : Nat) : Int) := by
        rw [show Int.tmod (n : Int) 128 = ((n % 128 : Nat) : Int) from rfl, w64 (by omega) (by omega)]; omega
      rw [e1, e2]
      have e3 : varL n = ((n % 128 + 128 : Nat) : Int) :: varL (n / 128) := by rw [varL, if_pos h]
      rw [e3]
      have := ih (n / 128) (by omega) (acc ++ [((n % 128 + 128 : Nat) : Int)]) (by simp; omega)
      rw [List.append_assoc] at this
      exact this
    · have e3 : varL n = [(n : Int)] := by rw [varL, if_neg h]
      have e4 : (n : Int) % 256 = (n : Int) := by omega
      rw [e3, e4]
      exact ev_neg (by omega) (ev_pos (by omega) (Ev.now _))

theorem impl_var0 : ∀ (n : Nat) (acc : List Int), acc.length + n < 140737488355000 → Ev (fun k => impl_VarText.l0 k (n : Int) acc) ((strOfNums (acc ++ varL n), true)) := by
  intro n
  induction n using Nat.strongRecOn with
  | _ n ih =>
    intro acc hb
    refine ev_step ?_
    simp only [impl_VarText.l0]
    by_cases h : n > 127
    · refine ev_pos (by omega) (ev_pos (by omega) ?_)
      have e1 : wrap64 (Int.tdiv (n : Int) 128) = ((n / 128 : Nat) : Int) := by
        rw [show Int.tdiv (n : Int) 128 = ((n / 128 : Nat) : Int) from rfl, w64 (by omega) (by omega)]
      have e2 : (wrap64 ((Int.tmod (n : Int) 128) + 128)) % 256 = ((n % 128 + 128 : Nat) : Int) := by
        rw [show Int.tmod (n : Int) 128 = ((n % 128 : Nat) : Int) from rfl, w64 (by omega) (by omega)]; omega
      rw [e1, e2]
      have e3 : varL n = ((n % 128 + 128 : Nat) : Int) :: varL (n / 128) := by rw [varL, if_pos h]
      rw [e3]
      have := ih (n / 128) (by omega) (acc ++ [((n % 128 + 128 : Nat) : Int)]) (by simp; omega)
      rw [List.append_assoc] at this
      exact this
    · have e3 : varL n = [(n : Int)] := by rw [varL, if_neg h]
      have e4 : (n : Int) % 256 = (n : Int) := by omega
      rw [e3, e4]
      exact ev_neg (by omega) (ev_pos (by omega) (Ev.now _))

theorem spec_var (n : Nat) (h : n ≤ 1000000000) : Ev (fun k => spec_l01Var.f k n) (strOfNums (varL n)) := spec_var0 n [] (by simp; omega)
theorem within_true {a b c : Int} (h : b ≤ a) (h2 : a ≤ c) : impl_within.f a b c = some true := by unfold impl_within.f; rw [if_pos h]; simp [h2]
theorem within_false {a b c : Int} (h : ¬ (b ≤ a ∧ a ≤ c)) : impl_within.f a b c = some false := by
  unfold impl_within.f
  by_cases h1 : a ≥ b
  · rw [if_pos h1]; simp; omega
  · rw [if_neg h1]
theorem impl_varText (n : Int) : Ev (fun k => impl_VarText.f k n) (varText n) := by
  unfold impl_VarText.f varText
  by_cases h : 0 ≤ n ∧ n ≤ 1000000000
  · rw [if_pos h]
    refine ev_cbind (within_true h.1 h.2) (ev_pos rfl ?_)
    have := impl_var0 n.toNat [] (by simp; omega)
    rw [Int.toNat_of_nonneg h.1] at this
    exact this
  · rw [if_neg h]
    exact ev_cbind (within_false h) (ev_neg (by simp) (Ev.now _))

def shortText (s : ByteArray) : ByteArray × Bool := if s.size > 20000 then ((⟨#[]⟩ : ByteArray), false) else (strOfNums (varL s.size) ++ s, true)
theorem varL_length (n : Nat) : (varL n).length ≤ n + 1 := by
  induction n using Nat.strongRecOn with
  | _ n ih =>
    rw [varL]
    split
    · have := ih (n / 128) (by omega)
      simp; omega
    · simp
theorem spec_shortText (s : ByteArray) : Ev (fun k => spec_ShortText.f k s) (shortText s) := by
  unfold spec_ShortText.f shortText
  by_cases h : s.size > 20000
  · rw [if_pos h]; exact ev_pos (by omega) (Ev.now _)
  · rw [if_neg h]
    have := varL_length s.size
    exact ev_neg (by omega) (ev_bind (spec_var s.size (by omega)) (ev_pos (by rw [strOfNums_size]; omega) (Ev.now _)))
theorem impl_shortText (s : ByteArray) : Ev (fun k => impl_ShortText.f k s) (shortText s) := by
  unfold impl_ShortText.f shortText
  by_cases h : s.size > 20000
  · rw [if_pos h]; exact ev_pos (by omega) (Ev.now _)
  · rw [if_neg h]
    have := varL_length s.size
    have e : varText (s.size : Int) = (strOfNums (varL s.size), true) := by unfold varText; rw [if_pos (by omega)]; rfl
    have h2 := impl_varText (s.size : Int)
    rw [e] at h2
    exact ev_neg (by omega) (ev_bind h2 (ev_pos (by rw [strOfNums_size]; omega) (Ev.now _)))

theorem FnExactShortText : laws_FnExactShortText.Pure := by
  intro s hs
  refine ev_at ?_
  unfold laws_FnExactShortText.f
  exact ev_if (fun _ => Ev.now _) (fun _ => ev_bind (spec_shortText s) (ev_bind (impl_shortText s) (ev_pos rfl (ev_neg (by simp) (Ev.now _)))))

end Go.Proofs.Ytabohnmepkiacaa.Pure
