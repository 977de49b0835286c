/- The law FnExactTrimmed answers true at every list of versions and number. Conditions: lengths and sizes as the row gives them. -/
import Derived.Test.YtjadloppdbhpiaaQFnExactTrimmedx6
import Derived.Test.YtjadloppdbhpiaaAid
namespace Go.Proofs.Ytjadloppdbhpiaa.Pure
open Go.RowKit Go.Proofs.Ytjadloppdbhpiaa.QFnExactTrimmed Go.Proofs.YtjadloppdbhpiaaW.PrintWords Go.Proofs.YtjadloppdbhpiaaW.PrintLast Go.Proofs.Ytjadloppdbhpiaa.Aid
set_option linter.unusedVariables false
/-! lists of Version: sizes, copies, a list is as itself -/
abbrev IVersion := S57
abbrev LVersion := S65
theorem szVersion_one (x : LVersion) (left : Int) (h0 : 0 ≤ left) (h1 : left ≤ 1048576) (ha : x.f0.size ≤ 9223372036854775807) (hb : x.f1.size ≤ 9223372036854775807) :
    ∃ t, laws_szVersion.f x.f0 x.f1 x.f2 x.f3 left = some t ∧ (t < 0 ∨ (0 ≤ t ∧ (x.f0.size : Int) + x.f1.size + t = left)) := by
  unfold laws_szVersion.f
  rw [w64 (x := left - (x.f0.size : Int)) (by omega) (by omega)]
  by_cases c1 : left - (x.f0.size : Int) < 0
  · rw [if_pos c1]; exact ⟨_, rfl, .inl (by omega)⟩
  · rw [if_neg c1, w64 (x := left - (x.f0.size : Int) - (x.f1.size : Int)) (by omega) (by omega)]
    by_cases c2 : left - (x.f0.size : Int) - (x.f1.size : Int) < 0
    · rw [if_pos c2]; exact ⟨_, rfl, .inl (by omega)⟩
    · rw [if_neg c2]; exact ⟨_, rfl, .inr ⟨by omega, by omega⟩⟩
theorem szVersionS_l (l : List LVersion) (hl : l.length ≤ 9223372036854775807) (hs : ∀ x ∈ l, x.f0.size ≤ 9223372036854775807 ∧ x.f1.size ≤ 9223372036854775807) : ∀ (rest pre : List LVersion) (left : Int), l = pre ++ rest → 0 ≤ left → left ≤ 1048576 →
    ∃ t, Ev (fun k => laws_szVersionS.l0 k l left (pre.length : Int)) t ∧ (t < 0 ∨ (0 ≤ t ∧ t ≤ left ∧ ∀ x ∈ rest, x.f0.size ≤ 1048576 ∧ x.f1.size ≤ 1048576)) := by
  intro rest
  induction rest with
  | nil =>
    intro pre left e h0 h1
    refine ⟨left, ev_step ?_, .inr ⟨h0, Int.le_refl _, by simp⟩⟩
    simp only [laws_szVersionS.l0]
    exact ev_neg (by rw [e]; simp) (Ev.now _)
  | cons x rest ih =>
    intro pre left e h0 h1
    have hx := hs x (by rw [e]; simp)
    have hg : rd_T65 l (pre.length : Int) = x := by unfold rd_T65; rw [Int.toNat_natCast, e, getD_mid]
    have hlt : (pre.length : Int) < (l.length : Int) := by rw [e]; exact len_mid _ _ _
    obtain ⟨u, hu, hc⟩ := szVersion_one x left h0 h1 hx.1 hx.2
    rcases hc with hc | ⟨c1, c2⟩
    · refine ⟨-1, ev_step ?_, .inl (by omega)⟩
      simp only [laws_szVersionS.l0]
      rw [hg]
      exact ev_pos hlt (ev_pos (by omega) (ev_cbind hu (ev_pos hc (Ev.now _))))
    · obtain ⟨t, ht, hq⟩ := ih (pre ++ [x]) u (by simp [e]) c1 (by omega)
      refine ⟨t, ev_step ?_, ?_⟩
      · simp only [laws_szVersionS.l0]
        rw [hg, next64 _ (by have := hl; omega)]
        rw [List.length_append, List.length_singleton] at ht
        exact ev_pos hlt (ev_pos (by omega) (ev_cbind hu (ev_neg (by omega) ht)))
      · rcases hq with hq | ⟨q1, q2, q3⟩
        · exact .inl hq
        · refine .inr ⟨q1, by omega, ?_⟩
          intro s hs2
          rcases List.mem_cons.1 hs2 with rfl | hs2
          · exact ⟨by omega, by omega⟩
          · exact q3 s hs2
theorem szVersionS_ok (l : List LVersion) (left : Int) (hl : l.length ≤ 9223372036854775807) (hs : ∀ x ∈ l, x.f0.size ≤ 9223372036854775807 ∧ x.f1.size ≤ 9223372036854775807) (h0 : 0 ≤ left) (h1 : left ≤ 1048576) :
    ∃ t, Ev (fun k => laws_szVersionS.f k l left) t ∧ (t < 0 ∨ (0 ≤ t ∧ t ≤ left ∧ l.length ≤ 1048576 ∧ ∀ x ∈ l, x.f0.size ≤ 1048576 ∧ x.f1.size ≤ 1048576)) := by
  unfold laws_szVersionS.f
  have hw : wrap64 (left - (l.length : Int)) = left - (l.length : Int) := w64 (by omega) (by omega)
  rw [hw]
  by_cases c : left - (l.length : Int) < 0
  · exact ⟨-1, ev_pos c (Ev.now _), .inl (by omega)⟩
  · obtain ⟨t, ht, hq⟩ := szVersionS_l l hl hs l [] (left - (l.length : Int)) rfl (by omega) (by omega)
    refine ⟨t, ev_neg c ht, ?_⟩
    rcases hq with hq | ⟨q1, q2, q3⟩
    · exact .inl hq
    · exact .inr ⟨q1, by omega, by omega, q3⟩
def toVersionM (x : LVersion) : IVersion := ⟨x.f0, x.f1, x.f2, x.f3⟩
theorem toVersionS_l (l : List LVersion) (hl : l.length ≤ 1048576) : ∀ (rest pre : List LVersion), l = pre ++ rest → Ev (fun k => laws_toVersionS.l0 k l (pre.map toVersionM ++ List.replicate rest.length z57) (pre.length : Int)) (l.map toVersionM) := by
  intro rest
  induction rest with
  | nil =>
    intro pre e
    refine ev_step ?_
    simp only [laws_toVersionS.l0]
    exact ev_neg (by rw [e]; simp) (ev_now (by rw [e]; simp))
  | cons x rest ih =>
    intro pre e
    refine ev_step ?_
    simp only [laws_toVersionS.l0]
    have hg : rd_T65 l (pre.length : Int) = x := by unfold rd_T65; rw [Int.toNat_natCast, e, getD_mid]
    have hlt : (pre.length : Int) < (l.length : Int) := by rw [e]; exact len_mid _ _ _
    have h := ih (pre ++ [x]) (by simp [e])
    rw [List.length_append, List.length_singleton] at h
    have hm : (pre.map toVersionM).length = pre.length := by simp
    rw [hg, next64 _ (by omega), Int.toNat_natCast, List.length_cons, List.replicate_succ]
    refine ev_pos hlt (ev_pos (by omega) (ev_cbind rfl (ev_pos (by simp; omega) ?_)))
    rw [← hm, set_mid, hm]
    rw [List.map_append, List.append_assoc] at h
    exact h
theorem toVersionS_ok (l : List LVersion) (hl : l.length ≤ 1048576) : Ev (fun k => laws_toVersionS.f k l) (l.map toVersionM) := by
  unfold laws_toVersionS.f
  rw [Int.toNat_natCast]
  exact ev_pos (by omega) (ev_pos (by omega) (toVersionS_l l hl l [] rfl))
theorem eqVersion_same (x : IVersion) : laws_eqVersion.f x.f0 x.f1 x.f2 x.f3 x.f0 x.f1 x.f2 x.f3 = some true := by unfold laws_eqVersion.f; simp
theorem eqVersionS_l (l : List IVersion) (hl : l.length ≤ 9223372036854775800) : ∀ (rest pre : List IVersion), l = pre ++ rest → Ev (fun k => laws_eqVersionS.l0 k l l (pre.length : Int)) true := by
  intro rest
  induction rest with
  | nil =>
    intro pre e
    refine ev_step ?_
    simp only [laws_eqVersionS.l0]
    exact ev_neg (by rw [e]; simp) (Ev.now _)
  | cons x rest ih =>
    intro pre e
    refine ev_step ?_
    simp only [laws_eqVersionS.l0]
    have hlt : (pre.length : Int) < (l.length : Int) := by rw [e]; exact len_mid _ _ _
    have h := ih (pre ++ [x]) (by simp [e])
    rw [List.length_append, List.length_singleton] at h
    rw [next64 _ (by omega)]
    exact ev_pos hlt (ev_pos (by omega) (ev_pos hlt (ev_cbind (eqVersion_same _) (ev_pos rfl h))))
theorem eqVersionS_same (l : List IVersion) (hl : l.length ≤ 9223372036854775800) : Ev (fun k => laws_eqVersionS.f k l l) true := by
  unfold laws_eqVersionS.f
  exact ev_pos rfl (eqVersionS_l l hl l [] rfl)

/-! the last version of a key up to a number -/
def lastFrom (l : List IVersion) (key : ByteArray) (snap : Int) : List IVersion → Nat → Int → Int
  | [], _, a => a
  | v :: rest, i, a => if v.f0.toList = key.toList ∧ v.f3 ≤ snap ∧ (a < 0 ∨ v.f3 > (rd_T57 l a).f3) then lastFrom l key snap rest (i + 1) (i : Int) else lastFrom l key snap rest (i + 1) a
def lastM (l : List IVersion) (key : ByteArray) (snap : Int) : Int := lastFrom l key snap l 0 (-1)
theorem lastFrom_range (l : List IVersion) (key : ByteArray) (snap : Int) : ∀ (rest : List IVersion) (i : Nat) (a : Int), (-1 ≤ a ∧ a < (i : Int)) → -1 ≤ lastFrom l key snap rest i a ∧ lastFrom l key snap rest i a < ((i + rest.length : Nat) : Int) := by
  intro rest
  induction rest with
  | nil => intro i a h; exact ⟨h.1, by simp [lastFrom]; omega⟩
  | cons v rest ih =>
    intro i a h
    unfold lastFrom
    rw [List.length_cons]
    split
    · have := ih (i + 1) (i : Int) (by omega); omega
    · have := ih (i + 1) a (by omega); omega
theorem lastM_range (l : List IVersion) (key : ByteArray) (snap : Int) : -1 ≤ lastM l key snap ∧ lastM l key snap < (l.length : Int) := by
  have := lastFrom_range l key snap l 0 (-1) (by omega)
  unfold lastM; omega
theorem spec_last0 (l : List IVersion) (key : ByteArray) (snap : Int) (hl : l.length ≤ 1099511627776) : ∀ (rest pre : List IVersion) (a : Int), l = pre ++ rest → (-1 ≤ a ∧ a < (pre.length : Int)) →
    Ev (fun k => spec_l06At.l0 k l key snap a (pre.length : Int)) (lastFrom l key snap rest pre.length a) := by
  intro rest
  induction rest with
  | nil =>
    intro pre a e h
    refine ev_step ?_
    simp only [spec_l06At.l0]
    exact ev_neg (by rw [e]; simp) (Ev.now _)
  | cons v rest ih =>
    intro pre a e h
    have hg : rd_T57 l (pre.length : Int) = v := by unfold rd_T57; rw [Int.toNat_natCast, e, getD_mid]
    have hlt : (pre.length : Int) < (l.length : Int) := by rw [e]; exact len_mid _ _ _
    have ha := ih (pre ++ [v]) (pre.length : Int) (by simp [e]) (by rw [List.length_append, List.length_singleton]; omega)
    have hb := ih (pre ++ [v]) a (by simp [e]) (by rw [List.length_append, List.length_singleton]; omega)
    rw [List.length_append, List.length_singleton] at ha hb
    refine ev_step ?_
    simp only [spec_l06At.l0]
    rw [hg, next64 _ (by omega)]
    unfold lastFrom
    refine ev_pos hlt (ev_pos (by omega) (ev_if (fun c1 => ev_if (fun c2 => ev_if (fun c3 => ?_) (fun c3 => ev_pos (by omega) (ev_pos (by omega) (ev_if (fun c4 => ?_) (fun c4 => ?_))))) (fun c2 => ?_)) (fun c1 => ?_)))
    · rw [if_pos ⟨c1, c2, .inl c3⟩]; exact ha
    · rw [if_pos ⟨c1, c2, .inr c4⟩]; exact ha
    · rw [if_neg (fun h => h.2.2.elim c3 c4)]; exact hb
    · rw [if_neg (fun h => c2 h.2.1)]; exact hb
    · rw [if_neg (fun h => c1 h.1)]; exact hb
theorem spec_last (l : List IVersion) (key : ByteArray) (snap : Int) (hl : l.length ≤ 1099511627776) : Ev (fun k => spec_l06At.f k l key snap) (lastM l key snap) := spec_last0 l key snap hl l [] (-1) rfl (by simp)
theorem impl_last0 (l : List IVersion) (key : ByteArray) (snap : Int) (hl : l.length ≤ 1099511627776) : ∀ (rest pre : List IVersion) (a : Int), l = pre ++ rest → (-1 ≤ a ∧ a < (pre.length : Int)) →
    Ev (fun k => impl_lastAt.l0 k l key snap a l (l.length : Int) (pre.length : Int)) (lastFrom l key snap rest pre.length a) := by
  intro rest
  induction rest with
  | nil =>
    intro pre a e h
    refine ev_step ?_
    simp only [impl_lastAt.l0]
    exact ev_neg (by rw [e]; simp) (Ev.now _)
  | cons v rest ih =>
    intro pre a e h
    have hg : rd_T57 l (pre.length : Int) = v := by unfold rd_T57; rw [Int.toNat_natCast, e, getD_mid]
    have hlt : (pre.length : Int) < (l.length : Int) := by rw [e]; exact len_mid _ _ _
    have ha := ih (pre ++ [v]) (pre.length : Int) (by simp [e]) (by rw [List.length_append, List.length_singleton]; omega)
    have hb := ih (pre ++ [v]) a (by simp [e]) (by rw [List.length_append, List.length_singleton]; omega)
    rw [List.length_append, List.length_singleton] at ha hb
    refine ev_step ?_
    simp only [impl_lastAt.l0]
    rw [hg, next64 _ (by omega)]
    unfold lastFrom
    refine ev_pos hlt (ev_pos (by omega) (ev_pos hlt (ev_if (fun c1 => ev_if (fun c2 => ev_if (fun c3 => ?_) (fun c3 => ev_pos (by omega) (ev_pos (by omega) (ev_if (fun c4 => ?_) (fun c4 => ?_))))) (fun c2 => ?_)) (fun c1 => ?_))))
    · rw [if_pos ⟨c1, c2, .inl c3⟩]; exact ha
    · rw [if_pos ⟨c1, c2, .inr c4⟩]; exact ha
    · rw [if_neg (fun h => h.2.2.elim c3 c4)]; exact hb
    · rw [if_neg (fun h => c2 h.2.1)]; exact hb
    · rw [if_neg (fun h => c1 h.1)]; exact hb
theorem impl_last (l : List IVersion) (key : ByteArray) (snap : Int) (hl : l.length ≤ 1099511627776) : Ev (fun k => impl_lastAt.f k l key snap) (lastM l key snap) := impl_last0 l key snap hl l [] (-1) rfl (by simp)

/-! marks -/
theorem markText_l : ∀ (n : Nat) (acc : ByteArray), acc.size + n ≤ 4611686018427387904 → ∃ r, Ev (fun k => laws_markText.l0 k (n : Int) acc) r := by
  intro n
  induction n using Nat.strongRecOn with
  | _ n ih =>
    intro acc hb
    by_cases h : n = 0
    · subst h
      refine ⟨(⟨#[109]⟩ : ByteArray) ++ acc, ev_step ?_⟩
      simp only [laws_markText.l0]
      exact ev_neg (by omega) (ev_pos (by omega) (Ev.now _))
    · have e1 : wrap64 (Int.tdiv (n : Int) 10) = ((n / 10 : Nat) : Int) := by
        rw [show Int.tdiv (n : Int) 10 = ((n / 10 : Nat) : Int) from rfl, w64 (by omega) (by omega)]
      obtain ⟨r, hr⟩ := ih (n / 10) (by omega) (strOfNums [(wrap64 (48 + (Int.tmod (n : Int) 10))) % 256] ++ acc) (by rw [ByteArray.size_append, strOfNums_size]; simp; omega)
      refine ⟨r, ev_step ?_⟩
      simp only [laws_markText.l0]
      rw [e1]
      exact ev_pos (by omega) (ev_cbind rfl (ev_pos (by rw [strOfNums_size]; simp; omega) hr))
theorem markText_ok (n : Int) (h : n ≤ 4611686018427387904) : ∃ r, Ev (fun k => laws_markText.f k n) r := by
  unfold laws_markText.f
  by_cases c : n ≤ 0
  · exact ⟨_, ev_pos c (Ev.now _)⟩
  · obtain ⟨r, hr⟩ := markText_l n.toNat (⟨#[]⟩ : ByteArray) (by show 0 + n.toNat ≤ _; omega)
    rw [Int.toNat_of_nonneg (by omega)] at hr
    exact ⟨r, ev_neg c hr⟩
open Classical in
noncomputable def markT (n : Int) : ByteArray := if h : ∃ r, Ev (fun k => laws_markText.f k n) r then Classical.choose h else ByteArray.empty
theorem markT_ev (n : Int) (h : n ≤ 4611686018427387904) : Ev (fun k => laws_markText.f k n) (markT n) := by
  unfold markT
  rw [dif_pos (markText_ok n h)]
  exact Classical.choose_spec (markText_ok n h)

/-! versions are marked, and hold their marks -/
noncomputable def markV (a : Int) : IVersion := ⟨markT a, markT (a + 1), (Int.tmod (a + 2) 3 == 0), a + 3⟩
noncomputable def markVL (a : Int) : Nat → List IVersion
  | 0 => []
  | n + 1 => markV a :: markVL (a + 4) n
theorem markVersionS_l : ∀ (rest pre : List IVersion) (a : Int), 0 ≤ a → pre.length + rest.length ≤ 1099511627776 → a + 4 * rest.length ≤ 4611686018427387900 →
    Ev (fun k => laws_markVersionS.l0 k (pre ++ rest) a (pre.length : Int)) (a + 4 * rest.length, pre ++ markVL a rest.length) := by
  intro rest
  induction rest with
  | nil =>
    intro pre a h0 h1 h2
    refine ev_step ?_
    simp only [laws_markVersionS.l0]
    exact ev_neg (by simp) (ev_now (by simp [markVL]))
  | cons x rest ih =>
    intro pre a h0 h1 h2
    rw [List.length_cons] at h1 h2
    have h := ih (pre ++ [markV a]) (a + 4) (by omega) (by simp; omega) (by omega)
    rw [List.length_append, List.length_singleton] at h
    refine ev_step ?_
    simp only [laws_markVersionS.l0]
    rw [next64 _ (by omega), Int.toNat_natCast, w64 (x := a + 1) (by omega) (by omega), w64 (x := a + 1 + 1) (by omega) (by omega), w64 (x := a + 1 + 1 + 1) (by omega) (by omega), w64 (x := a + 1 + 1 + 1 + 1) (by omega) (by omega)]
    have hg : ∀ y : IVersion, rd_T57 (pre ++ y :: rest) (pre.length : Int) = y := by intro y; unfold rd_T57; rw [Int.toNat_natCast, getD_mid]
    simp only [hg]
    refine ev_pos (len_mid _ _ _) (ev_bind (markT_ev a (by omega)) (ev_pos (by omega) (ev_cbind (by rw [set_mid]) ?_)))
    refine ev_bind (markT_ev (a + 1) (by omega)) ?_
    simp only [hg]
    refine ev_cbind (by rw [set_mid]) (ev_cbind (by simp only [hg]; rw [set_mid]) ?_)
    simp only [hg]
    rw [set_mid]
    rw [List.append_assoc, List.append_assoc] at h
    rw [show a + 1 + 1 + 1 + 1 = a + 4 from by omega]
    have e3 : (⟨markT a, markT (a + 1), (Int.tmod (a + 1 + 1) 3 == 0), a + 1 + 1 + 1⟩ : IVersion) = markV a := by unfold markV; rw [show a + 1 + 1 + 1 = a + 3 from by omega, show a + 1 + 1 = a + 2 from by omega]
    rw [e3]
    refine ev_eq h ?_
    rw [List.length_cons]
    simp only [markVL]
    refine Prod.ext (by simp; omega) rfl
theorem heldVersionS_l : ∀ (n : Nat) (pre : List IVersion) (a : Int), 0 ≤ a → pre.length + n ≤ 1099511627776 → a + 4 * n ≤ 4611686018427387900 →
    Ev (fun k => laws_heldVersionS.l0 k (pre ++ markVL a n) a (pre.length : Int)) (a + 4 * n) := by
  intro n
  induction n with
  | zero =>
    intro pre a h0 h1 h2
    refine ev_step ?_
    simp only [laws_heldVersionS.l0]
    exact ev_neg (by simp [markVL]) (ev_now (by simp))
  | succ n ih =>
    intro pre a h0 h1 h2
    have h := ih (pre ++ [markV a]) (a + 4) (by omega) (by simp; omega) (by omega)
    rw [List.length_append, List.length_singleton, List.append_assoc] at h
    refine ev_step ?_
    simp only [laws_heldVersionS.l0]
    have hg : rd_T57 (pre ++ markVL a (n + 1)) (pre.length : Int) = markV a := by unfold rd_T57; simp only [markVL]; rw [Int.toNat_natCast, getD_mid]
    rw [next64 _ (by omega), w64 (x := a + 1) (by omega) (by omega), w64 (x := a + 1 + 1) (by omega) (by omega), w64 (x := a + 1 + 1 + 1) (by omega) (by omega), w64 (x := a + 1 + 1 + 1 + 1) (by omega) (by omega), hg, show a + 1 + 1 + 1 + 1 = a + 4 from by omega]
    refine ev_pos (by simp only [markVL]; exact len_mid _ _ _) (ev_pos (by omega) (ev_bind (markT_ev a (by omega)) (ev_pos rfl (ev_bind (markT_ev (a + 1) (by omega)) (ev_pos rfl (ev_neg ?_ (ev_pos ?_ (ev_eq h (by omega)))))))))
    · rw [show a + 1 + 1 = a + 2 from by omega]; unfold markV; simp
    · unfold markV; show a + 3 = a + 1 + 1 + 1; omega
theorem versions_marked (S : List IVersion) (hS : S.length ≤ 1099511627776) : ∃ m S', Ev (fun k => laws_markVersionS.f k S 1) (m, S') ∧ 0 ≤ m ∧ Ev (fun k => laws_heldVersionS.f k S' 1) m := by
  refine ⟨1 + 4 * S.length, markVL 1 S.length, ?_, by omega, ?_⟩
  · unfold laws_markVersionS.f
    exact markVersionS_l S [] 1 (by omega) (by simp; omega) (by omega)
  · unfold laws_heldVersionS.f
    exact heldVersionS_l S.length [] 1 (by omega) (by simp; omega) (by omega)

/-! what stays of a list of versions -/
def keepA (l : List IVersion) (snap : Int) : List IVersion → Nat → List IVersion
  | [], _ => []
  | v :: rest, i => if v.f3 > snap ∨ lastM l v.f0 snap = (i : Int) then v :: keepA l snap rest (i + 1) else keepA l snap rest (i + 1)
def cntV (key : ByteArray) : List IVersion → Nat
  | [] => 0
  | v :: rest => (if v.f0.toList = key.toList then 1 else 0) + cntV key rest
def keepB (s : List IVersion) (snap : Int) : List IVersion → List IVersion
  | [] => []
  | v :: rest => if v.f3 > snap ∨ v.f2 = false ∨ 1 < cntV v.f0 s then v :: keepB s snap rest else keepB s snap rest
def trimM (l : List IVersion) (snap : Int) : List IVersion := keepB (keepA l snap l 0) snap (keepA l snap l 0)
theorem keepA_len (l : List IVersion) (snap : Int) : ∀ (rest : List IVersion) (i : Nat), (keepA l snap rest i).length ≤ rest.length
  | [], _ => by simp [keepA]
  | v :: rest, i => by
    have := keepA_len l snap rest (i + 1)
    simp only [keepA]
    split <;> simp <;> omega
theorem keepB_len (s : List IVersion) (snap : Int) : ∀ (rest : List IVersion), (keepB s snap rest).length ≤ rest.length
  | [] => by simp [keepB]
  | v :: rest => by
    have := keepB_len s snap rest
    simp only [keepB]
    split <;> simp <;> omega
theorem trimM_len (l : List IVersion) (snap : Int) : (trimM l snap).length ≤ l.length := by
  have h1 := keepA_len l snap l 0
  have h2 := keepB_len (keepA l snap l 0) snap (keepA l snap l 0)
  unfold trimM; omega
theorem specT0 (l : List IVersion) (snap : Int) (hl : l.length ≤ 1048576) (r : List IVersion) : ∀ (rest pre acc : List IVersion), l = pre ++ rest → acc.length ≤ pre.length → Ev (fun k => spec_Trimmed.l1 k snap (acc ++ keepA l snap rest pre.length) [] 0) r → Ev (fun k => spec_Trimmed.l0 k l snap acc (pre.length : Int)) r
  | [], pre, acc, e, ha, h => by
    refine ev_step ?_
    simp only [spec_Trimmed.l0]
    simp only [keepA, List.append_nil] at h
    exact ev_neg (by rw [e]; simp) h
  | v :: rest, pre, acc, e, ha, h => by
    have hg : rd_T57 l (pre.length : Int) = v := by unfold rd_T57; rw [Int.toNat_natCast, e, getD_mid]
    have hlt : (pre.length : Int) < (l.length : Int) := by rw [e]; exact len_mid _ _ _
    have ih1 := specT0 l snap hl r rest (pre ++ [v]) (acc ++ [v]) (by simp [e]) (by simp; omega)
    have ih0 := specT0 l snap hl r rest (pre ++ [v]) acc (by simp [e]) (by simp; omega)
    rw [List.length_append, List.length_singleton] at ih1 ih0
    rw [List.append_assoc] at ih1
    refine ev_step ?_
    simp only [spec_Trimmed.l0]
    rw [hg, next64 _ (by omega)]
    simp only [keepA] at h
    refine ev_pos hlt (ev_pos (by omega) (ev_bind (spec_last l v.f0 snap (by omega)) ?_))
    by_cases c1 : v.f3 > snap
    · rw [if_pos (.inl c1)] at h
      exact ev_pos c1 (ev_pos (by omega) (ih1 h))
    · by_cases c2 : lastM l v.f0 snap = (pre.length : Int)
      · rw [if_pos (.inr c2)] at h
        exact ev_neg c1 (ev_pos c2 (ev_pos (by omega) (ih1 h)))
      · rw [if_neg (fun hh => hh.elim c1 c2)] at h
        exact ev_neg c1 (ev_neg c2 (ih0 h))
theorem implT0 (l : List IVersion) (snap : Int) (hl : l.length ≤ 1048576) (r : List IVersion) : ∀ (rest pre acc : List IVersion), l = pre ++ rest → acc.length ≤ pre.length → Ev (fun k => impl_Trimmed.l1 k snap [] (acc ++ keepA l snap rest pre.length) ((acc ++ keepA l snap rest pre.length).length : Int) 0 (acc ++ keepA l snap rest pre.length)) r → Ev (fun k => impl_Trimmed.l0 k l snap l (l.length : Int) (pre.length : Int) acc) r
  | [], pre, acc, e, ha, h => by
    refine ev_step ?_
    simp only [impl_Trimmed.l0]
    simp only [keepA, List.append_nil] at h
    exact ev_neg (by rw [e]; simp) h
  | v :: rest, pre, acc, e, ha, h => by
    have hg : rd_T57 l (pre.length : Int) = v := by unfold rd_T57; rw [Int.toNat_natCast, e, getD_mid]
    have hlt : (pre.length : Int) < (l.length : Int) := by rw [e]; exact len_mid _ _ _
    have ih1 := implT0 l snap hl r rest (pre ++ [v]) (acc ++ [v]) (by simp [e]) (by simp; omega)
    have ih0 := implT0 l snap hl r rest (pre ++ [v]) acc (by simp [e]) (by simp; omega)
    rw [show (pre ++ [v]).length = pre.length + 1 by simp] at ih1 ih0
    rw [List.append_assoc] at ih1
    refine ev_step ?_
    simp only [impl_Trimmed.l0]
    rw [hg, next64 _ (by omega)]
    simp only [keepA] at h
    refine ev_pos hlt (ev_pos (by omega) (ev_pos hlt ?_))
    by_cases c1 : v.f3 > snap
    · rw [if_pos (.inl c1)] at h
      exact ev_pos c1 (ev_pos (by omega) (ih1 h))
    · refine ev_neg c1 (ev_bind (impl_last l v.f0 snap (by omega)) ?_)
      by_cases c2 : lastM l v.f0 snap = (pre.length : Int)
      · rw [if_pos (.inr c2)] at h
        exact ev_pos c2 (ev_pos (by omega) (ih1 h))
      · rw [if_neg (fun hh => hh.elim c1 c2)] at h
        exact ev_neg c2 (ih0 h)
theorem specT2 (s : List IVersion) (snap : Int) (hs : s.length ≤ 1048576) (out : List IVersion) (i : Nat) (hi : i < s.length) (ho : out.length ≤ i) (v : IVersion) (hv : rd_T57 s (i : Int) = v) (r : List IVersion) : ∀ (rest pre : List IVersion) (n : Nat), s = pre ++ rest → n ≤ pre.length →
    ((v.f3 > snap ∨ v.f2 = false ∨ 1 < n + cntV v.f0 rest) → Ev (fun k => spec_Trimmed.l1 k snap s (out ++ [v]) ((i + 1 : Nat) : Int)) r) → (¬ (v.f3 > snap ∨ v.f2 = false ∨ 1 < n + cntV v.f0 rest) → Ev (fun k => spec_Trimmed.l1 k snap s out ((i + 1 : Nat) : Int)) r) →
    Ev (fun k => spec_Trimmed.l2 k snap s out (i : Int) (n : Int) (pre.length : Int)) r
  | [], pre, n, e, hn, h1, h2 => by
    refine ev_step ?_
    simp only [spec_Trimmed.l2]
    rw [hv, next64 i (by omega)]
    simp only [cntV, Nat.add_zero] at h1 h2
    refine ev_neg (by rw [e]; simp) (ev_pos (by omega) (ev_pos (by omega) ?_))
    by_cases c1 : v.f2 = true
    · refine ev_pos c1 ?_
      by_cases c2 : v.f3 > snap
      · exact ev_pos c2 (ev_pos (by omega) (h1 (.inl c2)))
      · refine ev_neg c2 ?_
        by_cases c3 : (n : Int) > 1
        · exact ev_pos c3 (ev_pos (by omega) (h1 (.inr (.inr (by omega)))))
        · exact ev_neg c3 (h2 (fun hh => hh.elim c2 (fun hh => hh.elim (fun hh => by rw [c1] at hh; cases hh) (fun hh => c3 (by omega)))))
    · exact ev_neg c1 (ev_pos (by omega) (h1 (.inr (.inl (by simpa using c1)))))
  | x :: rest, pre, n, e, hn, h1, h2 => by
    have hg : rd_T57 s (pre.length : Int) = x := by unfold rd_T57; rw [Int.toNat_natCast, e, getD_mid]
    have hlt : (pre.length : Int) < (s.length : Int) := by rw [e]; exact len_mid _ _ _
    refine ev_step ?_
    simp only [spec_Trimmed.l2]
    rw [hv, hg, next64 n (by omega), next64 pre.length (by omega)]
    refine ev_pos hlt (ev_pos (by omega) (ev_pos (by omega) (ev_pos (by omega) ?_)))
    by_cases c : x.f0.toList = v.f0.toList
    · have e1 : n + cntV v.f0 (x :: rest) = n + 1 + cntV v.f0 rest := by simp only [cntV]; rw [if_pos c]; omega
      rw [e1] at h1 h2
      have ih := specT2 s snap hs out i hi ho v hv r rest (pre ++ [x]) (n + 1) (by simp [e]) (by simp; omega) h1 h2
      rw [List.length_append, List.length_singleton] at ih
      exact ev_pos c ih
    · have e1 : n + cntV v.f0 (x :: rest) = n + cntV v.f0 rest := by simp only [cntV]; rw [if_neg c]; omega
      rw [e1] at h1 h2
      have ih := specT2 s snap hs out i hi ho v hv r rest (pre ++ [x]) n (by simp [e]) (by simp; omega) h1 h2
      rw [List.length_append, List.length_singleton] at ih
      exact ev_neg c ih
theorem specT1 (s : List IVersion) (snap : Int) (hs : s.length ≤ 1048576) : ∀ (rest pre out : List IVersion), s = pre ++ rest → out.length ≤ pre.length → Ev (fun k => spec_Trimmed.l1 k snap s out (pre.length : Int)) (out ++ keepB s snap rest)
  | [], pre, out, e, ho => by
    refine ev_step ?_
    simp only [spec_Trimmed.l1, keepB, List.append_nil]
    exact ev_neg (by rw [e]; simp) (Ev.now _)
  | v :: rest, pre, out, e, ho => by
    have hg : rd_T57 s (pre.length : Int) = v := by unfold rd_T57; rw [Int.toNat_natCast, e, getD_mid]
    have hlt : (pre.length : Int) < (s.length : Int) := by rw [e]; exact len_mid _ _ _
    have ih1 := specT1 s snap hs rest (pre ++ [v]) (out ++ [v]) (by simp [e]) (by simp; omega)
    have ih0 := specT1 s snap hs rest (pre ++ [v]) out (by simp [e]) (by simp; omega)
    rw [show (pre ++ [v]).length = pre.length + 1 by simp] at ih1 ih0
    rw [List.append_assoc] at ih1
    refine ev_step ?_
    simp only [spec_Trimmed.l1]
    refine ev_pos hlt (specT2 s snap hs out pre.length (by omega) ho v hg _ s [] 0 rfl (Nat.le_refl _) (fun c => ?_) (fun c => ?_))
    · rw [Nat.zero_add] at c
      simp only [keepB]
      rw [if_pos c]
      exact ih1
    · rw [Nat.zero_add] at c
      simp only [keepB]
      rw [if_neg c]
      exact ih0
theorem implC0 (s : List IVersion) (hs : s.length ≤ 1048576) (key : ByteArray) : ∀ (rest pre : List IVersion) (n : Nat), s = pre ++ rest → n ≤ pre.length → Ev (fun k => impl_Trimmed_c1.l0 k key (n : Int) s (s.length : Int) (pre.length : Int)) ((n + cntV key rest : Nat) : Int)
  | [], pre, n, e, hn => by
    refine ev_step ?_
    simp only [impl_Trimmed_c1.l0, cntV, Nat.add_zero]
    exact ev_neg (by rw [e]; simp) (Ev.now _)
  | x :: rest, pre, n, e, hn => by
    have hg : rd_T57 s (pre.length : Int) = x := by unfold rd_T57; rw [Int.toNat_natCast, e, getD_mid]
    have hlt : (pre.length : Int) < (s.length : Int) := by rw [e]; exact len_mid _ _ _
    refine ev_step ?_
    simp only [impl_Trimmed_c1.l0]
    rw [hg, next64 n (by omega), next64 pre.length (by omega)]
    refine ev_pos hlt (ev_pos (by omega) (ev_pos hlt ?_))
    by_cases c : x.f0.toList = key.toList
    · have e1 : n + cntV key (x :: rest) = n + 1 + cntV key rest := by simp only [cntV]; rw [if_pos c]; omega
      rw [e1]
      have ih := implC0 s hs key rest (pre ++ [x]) (n + 1) (by simp [e]) (by simp; omega)
      rw [List.length_append, List.length_singleton] at ih
      exact ev_pos c ih
    · have e1 : n + cntV key (x :: rest) = n + cntV key rest := by simp only [cntV]; rw [if_neg c]; omega
      rw [e1]
      have ih := implC0 s hs key rest (pre ++ [x]) n (by simp [e]) (by simp; omega)
      rw [List.length_append, List.length_singleton] at ih
      exact ev_neg c ih
theorem implC (s : List IVersion) (hs : s.length ≤ 1048576) (key : ByteArray) : Ev (fun k => impl_Trimmed_c1.f k key s) ((cntV key s : Nat) : Int) := by
  have h := implC0 s hs key s [] 0 rfl (Nat.le_refl _)
  rw [Nat.zero_add] at h
  exact h
theorem implT1 (s : List IVersion) (snap : Int) (hs : s.length ≤ 1048576) : ∀ (rest pre out : List IVersion), s = pre ++ rest → out.length ≤ pre.length → Ev (fun k => impl_Trimmed.l1 k snap out s (s.length : Int) (pre.length : Int) s) (out ++ keepB s snap rest)
  | [], pre, out, e, ho => by
    refine ev_step ?_
    simp only [impl_Trimmed.l1, keepB, List.append_nil]
    exact ev_neg (by rw [e]; simp) (Ev.now _)
  | v :: rest, pre, out, e, ho => by
    have hg : rd_T57 s (pre.length : Int) = v := by unfold rd_T57; rw [Int.toNat_natCast, e, getD_mid]
    have hlt : (pre.length : Int) < (s.length : Int) := by rw [e]; exact len_mid _ _ _
    have ih1 := implT1 s snap hs rest (pre ++ [v]) (out ++ [v]) (by simp [e]) (by simp; omega)
    have ih0 := implT1 s snap hs rest (pre ++ [v]) out (by simp [e]) (by simp; omega)
    rw [show (pre ++ [v]).length = pre.length + 1 by simp] at ih1 ih0
    rw [List.append_assoc] at ih1
    refine ev_step ?_
    simp only [impl_Trimmed.l1, keepB]
    rw [hg, next64 pre.length (by omega)]
    refine ev_pos hlt (ev_pos (by omega) (ev_pos hlt ?_))
    by_cases c1 : v.f3 > snap
    · rw [if_pos (.inl c1)]
      exact ev_pos c1 (ev_pos (by omega) ih1)
    · refine ev_neg c1 ?_
      by_cases c2 : v.f2 = true
      · refine ev_pos c2 (ev_bind (implC s hs v.f0) ?_)
        by_cases c3 : ((cntV v.f0 s : Nat) : Int) > 1
        · rw [if_pos (.inr (.inr (by omega)))]
          exact ev_pos c3 (ev_pos (by omega) ih1)
        · rw [if_neg (fun hh => hh.elim c1 (fun hh => hh.elim (fun hh => by rw [c2] at hh; cases hh) (fun hh => c3 (by omega))))]
          exact ev_neg c3 ih0
      · rw [if_pos (.inr (.inl (by simpa using c2)))]
        exact ev_neg c2 (ev_pos (by omega) ih1)
theorem spec_trim (l : List IVersion) (snap : Int) (hl : l.length ≤ 1048576) : Ev (fun k => spec_Trimmed.f k l snap) (trimM l snap) := by
  have h1 := keepA_len l snap l 0
  exact specT0 l snap hl _ l [] [] rfl (Nat.le_refl _) (specT1 (keepA l snap l 0) snap (by omega) (keepA l snap l 0) [] [] rfl (Nat.le_refl _))
theorem impl_trim (l : List IVersion) (snap : Int) (hl : l.length ≤ 1048576) : Ev (fun k => impl_Trimmed.f k l snap) (trimM l snap) := by
  have h1 := keepA_len l snap l 0
  exact implT0 l snap hl _ l [] [] rfl (Nat.le_refl _) (implT1 (keepA l snap l 0) snap (by omega) (keepA l snap l 0) [] [] rfl (Nat.le_refl _))

theorem FnExactTrimmed (l0 : List LVersion) (a1 : Int) : l0.length ≤ 9223372036854775807 → (∀ x ∈ l0, x.f0.size ≤ 9223372036854775807 ∧ x.f1.size ≤ 9223372036854775807 ∧ (Lit.int .i64 x.f3).wf = true) → (Lit.int .i64 a1).wf = true → ∃ k, laws_FnExactTrimmed.f k l0 a1 = some true := by
  intro h0 g0 h1
  refine ev_at ?_
  unfold laws_FnExactTrimmed.f
  obtain ⟨t, ht, hq⟩ := szVersionS_ok l0 1048576 h0 (fun x hx => ⟨(g0 x hx).1, (g0 x hx).2.1⟩) (by omega) (by omega)
  refine ev_bind ht ?_
  rcases hq with hq | ⟨q1, q2, q3, q4⟩
  · exact ev_pos hq (Ev.now _)
  · have d0 := toVersionS_ok l0 q3
    have m0 : (l0.map toVersionM).length = l0.length := by simp
    generalize l0.map toVersionM = a at d0 m0
    have b1 := spec_trim a a1 (by omega)
    have b2 := impl_trim a a1 (by omega)
    have e0 := eqVersionS_same a (by omega)
    have hl := trimM_len a a1
    generalize trimM a a1 = r at b1 b2 hl
    have e1 := eqVersionS_same r (by omega)
    obtain ⟨n1, S1, k1, p1, _⟩ := versions_marked a (by omega)
    obtain ⟨n2, S2, k2, p2, f2⟩ := versions_marked r (by omega)
    refine ev_neg (by omega) (ev_bind d0 (ev_bind b1 (ev_bind d0 (ev_bind b2 (ev_bind e1 (ev_pos rfl (ev_bind d0 (ev_bind e0 (ev_pos rfl (ev_bind k1 (ev_neg (by show ¬ n1 < 0; omega) (ev_bind e1 (ev_step ?_)))))))))))))
    simp only [laws_FnExactTrimmed.j0]
    exact ev_neg (by simp) (ev_bind k2 (ev_bind f2 (ev_neg (by omega) (ev_pos rfl (ev_bind d0 (ev_bind b2 (ev_bind e1 (ev_pos rfl (ev_bind f2 (ev_neg (by omega) (ev_pos rfl (Ev.now _))))))))))))
end Go.Proofs.Ytjadloppdbhpiaa.Pure
