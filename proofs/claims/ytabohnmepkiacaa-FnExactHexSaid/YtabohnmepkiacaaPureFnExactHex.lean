/- The law FnExactHex answers true at every text. Conditions: the text's size as the row gives it. -/
import Derived.Test.YtabohnmepkiacaaQFnExactHexx1
import Derived.Test.YtabohnmepkiacaaAid
namespace Go.Proofs.Ytabohnmepkiacaa.Pure
open Go.RowKit Go.Proofs.Ytabohnmepkiacaa.QFnExactHex Go.Proofs.YtabohnmepkiacaaW.PrintWords Go.Proofs.YtabohnmepkiacaaW.PrintLast Go.Proofs.Ytabohnmepkiacaa.Aid

def HEX : ByteArray := (⟨#[48, 49, 50, 51, 52, 53, 54, 55, 56, 57, 97, 98, 99, 100, 101, 102]⟩ : ByteArray)
theorem fig16 : ∀ n : Fin 16, spec_l01Figure.f ((n.1 : Nat) : Int) = some (bt HEX ((n.1 : Nat) : Int)) := by decide +kernel
theorem figure_val (x : Int) (h0 : 0 ≤ x) (h1 : x < 16) : spec_l01Figure.f x = some (bt HEX x) := by
  have := fig16 ⟨x.toNat, by omega⟩
  simp only at this
  rw [Int.toNat_of_nonneg h0] at this
  exact this
/-- Two figures for each byte, from a place on. -/
def hexL (s : ByteArray) : Nat → Nat → List Int
  | 0, _ => []
  | d + 1, i => bt HEX (bt s (i : Int) / 16) :: bt HEX (bt s (i : Int) % 16) :: hexL s d (i + 1)

def hexM (s : ByteArray) : ByteArray × Bool := if s.size > 20000 then ((⟨#[]⟩ : ByteArray), false) else (strOfNums (hexL s s.size 0), true)
theorem spec_hex0 (s : ByteArray) (hs : s.size ≤ 20000) : ∀ (d i : Nat) (acc : List Int), i + d = s.size → acc.length ≤ 2 * i → Ev (fun k => spec_Hex.l0 k s acc (i : Int)) (strOfNums (acc ++ hexL s d i), true) := by
  intro d
  induction d with
  | zero =>
    intro i acc hi ha
    refine ev_step ?_
    simp only [spec_Hex.l0]
    exact ev_neg (by omega) (ev_now (by simp [hexL]))
  | succ d ih =>
    intro i acc hi ha
    have hb := bt_range s (i : Int)
    have e1 : wrap64 (bt s (i : Int)) = bt s (i : Int) := w64 (by omega) (by omega)
    have e2 : wrap64 (Int.tdiv (bt s (i : Int)) 16) = bt s (i : Int) / 16 := by rw [Int.tdiv_eq_ediv_of_nonneg hb.1, w64 (by omega) (by omega)]
    have e3 : Int.tmod (bt s (i : Int)) 16 = bt s (i : Int) % 16 := Int.tmod_eq_emod_of_nonneg hb.1
    have h := ih (i + 1) (acc ++ [bt HEX (bt s (i : Int) / 16), bt HEX (bt s (i : Int) % 16)]) (by omega) (by simp; omega)
    rw [List.append_assoc] at h
    refine ev_step ?_
    simp only [spec_Hex.l0]
    rw [e1, e2, e3, next64 i (by omega)]
    refine ev_pos (by omega) (ev_pos (by omega) (ev_cbind (figure_val _ (by omega) (by omega)) (ev_cbind (figure_val _ (by omega) (by omega)) (ev_cbind rfl (ev_pos (by simp; omega) h)))))
theorem impl_hex0 (s : ByteArray) (hs : s.size ≤ 20000) : ∀ (d i : Nat) (acc : List Int), i + d = s.size → acc.length ≤ 2 * i → Ev (fun k => impl_Hex.l0 k s acc (i : Int)) (strOfNums (acc ++ hexL s d i), true) := by
  intro d
  induction d with
  | zero =>
    intro i acc hi ha
    refine ev_step ?_
    simp only [impl_Hex.l0]
    exact ev_neg (by omega) (ev_now (by simp [hexL]))
  | succ d ih =>
    intro i acc hi ha
    have hb := bt_range s (i : Int)
    have e2 : (Int.tdiv (bt s (i : Int)) 16) % 256 = bt s (i : Int) / 16 := by rw [Int.tdiv_eq_ediv_of_nonneg hb.1]; omega
    have e3 : Int.tmod (bt s (i : Int)) 16 = bt s (i : Int) % 16 := Int.tmod_eq_emod_of_nonneg hb.1
    have h := ih (i + 1) (acc ++ [bt HEX (bt s (i : Int) / 16), bt HEX (bt s (i : Int) % 16)]) (by omega) (by simp; omega)
    rw [List.append_assoc] at h
    refine ev_step ?_
    simp only [impl_Hex.l0]
    rw [e2, e3, next64 i (by omega)]
    exact ev_pos (by omega) (ev_pos (by omega) (ev_pos (by omega) (ev_pos (by omega) (ev_pos (by omega) (ev_pos (by omega) (ev_cbind rfl (ev_pos (by simp; omega) h)))))))
theorem spec_hex (s : ByteArray) : Ev (fun k => spec_Hex.f k s) (hexM s) := by
  unfold spec_Hex.f hexM
  by_cases h : s.size > 20000
  · rw [if_pos h]; exact ev_pos (by omega) (Ev.now _)
  · rw [if_neg h]; exact ev_neg (by omega) (spec_hex0 s (by omega) s.size 0 [] (by omega) (by simp))
theorem impl_hex (s : ByteArray) : Ev (fun k => impl_Hex.f k s) (hexM s) := by
  unfold impl_Hex.f hexM
  by_cases h : s.size > 20000
  · rw [if_pos h]; exact ev_pos (by omega) (Ev.now _)
  · rw [if_neg h]; exact ev_neg (by omega) (impl_hex0 s (by omega) s.size 0 [] (by omega) (by simp))

theorem FnExactHex : laws_FnExactHex.Pure := by
  intro s hs
  refine ev_at ?_
  unfold laws_FnExactHex.f
  exact ev_if (fun _ => Ev.now _) (fun _ => ev_bind (spec_hex s) (ev_bind (impl_hex s) (ev_pos rfl (ev_neg (by simp) (Ev.now _)))))

end Go.Proofs.Ytabohnmepkiacaa.Pure
