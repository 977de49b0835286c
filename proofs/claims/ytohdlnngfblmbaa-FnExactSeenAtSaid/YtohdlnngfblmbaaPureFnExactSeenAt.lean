/- The law FnExactSeenAt answers true at every list of versions, key and number. Conditions: lengths and sizes as the row gives them. -/
import Derived.Test.YtohdlnngfblmbaaQFnExactSeenAtx2
import Derived.Test.YtohdlnngfblmbaaAid
namespace Go.Proofs.Ytohdlnngfblmbaa.Pure
open Go.RowKit Go.Proofs.Ytohdlnngfblmbaa.QFnExactSeenAt Go.Proofs.YtohdlnngfblmbaaW.PrintWords Go.Proofs.YtohdlnngfblmbaaW.PrintLast Go.Proofs.Ytohdlnngfblmbaa.Aid

/-! lists of Version: sizes, copies, a list is as itself -/
abbrev IVersion := S101
abbrev LVersion := S99
theorem szVersion_one (x : LVersion) (left : Int) (h0 : 0 ≤ left) (h1 : left ≤ 1048576) (ha : x.f0.size ≤ 9223372036854775807) (hb : x.f1.size ≤ 9223372036854775807) :
    ∃ t, laws_szVersion.f x.f0 x.f1 x.f2 x.f3 left = some t ∧ (t < 0 ∨ (0 ≤ t ∧ (x.f0.size : Int) + x.f1.size + t = left)) := by
  unfold laws_szVersion.f
  rw [w64 (x := left - (x.f0.size : Int)) (by omega) (by omega)]
  by_cases c1 : left - (x.f0.size : Int) < 0
  · rw [if_pos c1]; exact ⟨_, rfl, .inl (by omega)⟩
  · rw [if_neg c1, w64 (x := left - (x.f0.size : Int) - (x.f1.size : Int)) (by omega) (by omega)]
    by_cases c2 : left - (x.f0.size : Int) - (x.f1.size : Int) < 0
    · rw [if_pos c2]; exact ⟨_, rfl, .inl (by omega)⟩
    · rw [if_neg c2]; exact ⟨_, rfl, .inr ⟨by omega, by omega⟩⟩
theorem szVersionS_l (l : List LVersion) (hl : l.length ≤ 9223372036854775807) (hs : ∀ x ∈ l, x.f0.size ≤ 9223372036854775807 ∧ x.f1.size ≤ 9223372036854775807) : ∀ (rest pre : List LVersion) (left : Int), l = pre ++ rest → 0 ≤ left → left ≤ 1048576 →
    ∃ t, Ev (fun k => laws_szVersionS.l0 k l left (pre.length : Int)) t ∧ (t < 0 ∨ (0 ≤ t ∧ t ≤ left ∧ ∀ x ∈ rest, x.f0.size ≤ 1048576 ∧ x.f1.size ≤ 1048576)) := by
  intro rest
  induction rest with
  | nil =>
    intro pre left e h0 h1
    refine ⟨left, ev_step ?_, .inr ⟨h0, Int.le_refl _, by simp⟩⟩
    simp only [laws_szVersionS.l0]
    exact ev_neg (by rw [e]; simp) (Ev.now _)
  | cons x rest ih =>
    intro pre left e h0 h1
    have hx := hs x (by rw [e]; simp)
    have hg : rd_T99 l (pre.length : Int) = x := by unfold rd_T99; rw [Int.toNat_natCast, e, getD_mid]
    have hlt : (pre.length : Int) < (l.length : Int) := by rw [e]; exact len_mid _ _ _
    obtain ⟨u, hu, hc⟩ := szVersion_one x left h0 h1 hx.1 hx.2
    rcases hc with hc | ⟨c1, c2⟩
    · refine ⟨-1, ev_step ?_, .inl (by omega)⟩
      simp only [laws_szVersionS.l0]
      rw [hg]
      exact ev_pos hlt (ev_pos (by omega) (ev_cbind hu (ev_pos hc (Ev.now _))))
    · obtain ⟨t, ht, hq⟩ := ih (pre ++ [x]) u (by simp [e]) c1 (by omega)
      refine ⟨t, ev_step ?_, ?_⟩
      · simp only [laws_szVersionS.l0]
        rw [hg, next64 _ (by have := hl; omega)]
        rw [List.length_append, List.length_singleton] at ht
        exact ev_pos hlt (ev_pos (by omega) (ev_cbind hu (ev_neg (by omega) ht)))
      · rcases hq with hq | ⟨q1, q2, q3⟩
        · exact .inl hq
        · refine .inr ⟨q1, by omega, ?_⟩
          intro s hs2
          rcases List.mem_cons.1 hs2 with rfl | hs2
          · exact ⟨by omega, by omega⟩
          · exact q3 s hs2
theorem szVersionS_ok (l : List LVersion) (left : Int) (hl : l.length ≤ 9223372036854775807) (hs : ∀ x ∈ l, x.f0.size ≤ 9223372036854775807 ∧ x.f1.size ≤ 9223372036854775807) (h0 : 0 ≤ left) (h1 : left ≤ 1048576) :
    ∃ t, Ev (fun k => laws_szVersionS.f k l left) t ∧ (t < 0 ∨ (0 ≤ t ∧ t ≤ left ∧ l.length ≤ 1048576 ∧ ∀ x ∈ l, x.f0.size ≤ 1048576 ∧ x.f1.size ≤ 1048576)) := by
  unfold laws_szVersionS.f
  have hw : wrap64 (left - (l.length : Int)) = left - (l.length : Int) := w64 (by omega) (by omega)
  rw [hw]
  by_cases c : left - (l.length : Int) < 0
  · exact ⟨-1, ev_pos c (Ev.now _), .inl (by omega)⟩
  · obtain ⟨t, ht, hq⟩ := szVersionS_l l hl hs l [] (left - (l.length : Int)) rfl (by omega) (by omega)
    refine ⟨t, ev_neg c ht, ?_⟩
    rcases hq with hq | ⟨q1, q2, q3⟩
    · exact .inl hq
    · exact .inr ⟨q1, by omega, by omega, q3⟩
def toVersionM (x : LVersion) : IVersion := ⟨x.f0, x.f1, x.f2, x.f3⟩
theorem toVersionS_l (l : List LVersion) (hl : l.length ≤ 1048576) : ∀ (rest pre : List LVersion), l = pre ++ rest → Ev (fun k => laws_toVersionS.l0 k l (pre.map toVersionM ++ List.replicate rest.length z101) (pre.length : Int)) (l.map toVersionM) := by
  intro rest
  induction rest with
  | nil =>
    intro pre e
    refine ev_step ?_
    simp only [laws_toVersionS.l0]
    exact ev_neg (by rw [e]; simp) (ev_now (by rw [e]; simp))
  | cons x rest ih =>
    intro pre e
    refine ev_step ?_
    simp only [laws_toVersionS.l0]
    have hg : rd_T99 l (pre.length : Int) = x := by unfold rd_T99; rw [Int.toNat_natCast, e, getD_mid]
    have hlt : (pre.length : Int) < (l.length : Int) := by rw [e]; exact len_mid _ _ _
    have h := ih (pre ++ [x]) (by simp [e])
    rw [List.length_append, List.length_singleton] at h
    have hm : (pre.map toVersionM).length = pre.length := by simp
    rw [hg, next64 _ (by omega), Int.toNat_natCast, List.length_cons, List.replicate_succ]
    refine ev_pos hlt (ev_pos (by omega) (ev_cbind rfl (ev_pos (by simp; omega) ?_)))
    rw [← hm, set_mid, hm]
    rw [List.map_append, List.append_assoc] at h
    exact h
theorem toVersionS_ok (l : List LVersion) (hl : l.length ≤ 1048576) : Ev (fun k => laws_toVersionS.f k l) (l.map toVersionM) := by
  unfold laws_toVersionS.f
  rw [Int.toNat_natCast]
  exact ev_pos (by omega) (ev_pos (by omega) (toVersionS_l l hl l [] rfl))
theorem eqVersion_same (x : IVersion) : laws_eqVersion.f x.f0 x.f1 x.f2 x.f3 x.f0 x.f1 x.f2 x.f3 = some true := by unfold laws_eqVersion.f; simp
theorem eqVersionS_l (l : List IVersion) (hl : l.length ≤ 9223372036854775800) : ∀ (rest pre : List IVersion), l = pre ++ rest → Ev (fun k => laws_eqVersionS.l0 k l l (pre.length : Int)) true := by
  intro rest
  induction rest with
  | nil =>
    intro pre e
    refine ev_step ?_
    simp only [laws_eqVersionS.l0]
    exact ev_neg (by rw [e]; simp) (Ev.now _)
  | cons x rest ih =>
    intro pre e
    refine ev_step ?_
    simp only [laws_eqVersionS.l0]
    have hlt : (pre.length : Int) < (l.length : Int) := by rw [e]; exact len_mid _ _ _
    have h := ih (pre ++ [x]) (by simp [e])
    rw [List.length_append, List.length_singleton] at h
    rw [next64 _ (by omega)]
    exact ev_pos hlt (ev_pos (by omega) (ev_pos hlt (ev_cbind (eqVersion_same _) (ev_pos rfl h))))
theorem eqVersionS_same (l : List IVersion) (hl : l.length ≤ 9223372036854775800) : Ev (fun k => laws_eqVersionS.f k l l) true := by
  unfold laws_eqVersionS.f
  exact ev_pos rfl (eqVersionS_l l hl l [] rfl)

/-! the last version of a key up to a number -/
def lastFrom (l : List IVersion) (key : ByteArray) (snap : Int) : List IVersion → Nat → Int → Int
  | [], _, a => a
  | v :: rest, i, a => if v.f0.toList = key.toList ∧ v.f3 ≤ snap ∧ (a < 0 ∨ v.f3 > (rd_T101 l a).f3) then lastFrom l key snap rest (i + 1) (i : Int) else lastFrom l key snap rest (i + 1) a
def lastM (l : List IVersion) (key : ByteArray) (snap : Int) : Int := lastFrom l key snap l 0 (-1)
theorem lastFrom_range (l : List IVersion) (key : ByteArray) (snap : Int) : ∀ (rest : List IVersion) (i : Nat) (a : Int), (-1 ≤ a ∧ a < (i : Int)) → -1 ≤ lastFrom l key snap rest i a ∧ lastFrom l key snap rest i a < ((i + rest.length : Nat) : Int) := by
  intro rest
  induction rest with
  | nil => intro i a h; exact ⟨h.1, by simp [lastFrom]; omega⟩
  | cons v rest ih =>
    intro i a h
    unfold lastFrom
    rw [List.length_cons]
    split
    · have := ih (i + 1) (i : Int) (by omega); omega
    · have := ih (i + 1) a (by omega); omega
theorem lastM_range (l : List IVersion) (key : ByteArray) (snap : Int) : -1 ≤ lastM l key snap ∧ lastM l key snap < (l.length : Int) := by
  have := lastFrom_range l key snap l 0 (-1) (by omega)
  unfold lastM; omega
theorem spec_last0 (l : List IVersion) (key : ByteArray) (snap : Int) (hl : l.length ≤ 1099511627776) : ∀ (rest pre : List IVersion) (a : Int), l = pre ++ rest → (-1 ≤ a ∧ a < (pre.length : Int)) →
    Ev (fun k => spec_l06At.l0 k l key snap a (pre.length : Int)) (lastFrom l key snap rest pre.length a) := by
  intro rest
  induction rest with
  | nil =>
    intro pre a e h
    refine ev_step ?_
    simp only [spec_l06At.l0]
    exact ev_neg (by rw [e]; simp) (Ev.now _)
  | cons v rest ih =>
    intro pre a e h
    have hg : rd_T101 l (pre.length : Int) = v := by unfold rd_T101; rw [Int.toNat_natCast, e, getD_mid]
    have hlt : (pre.length : Int) < (l.length : Int) := by rw [e]; exact len_mid _ _ _
    have ha := ih (pre ++ [v]) (pre.length : Int) (by simp [e]) (by rw [List.length_append, List.length_singleton]; omega)
    have hb := ih (pre ++ [v]) a (by simp [e]) (by rw [List.length_append, List.length_singleton]; omega)
    rw [List.length_append, List.length_singleton] at ha hb
    refine ev_step ?_
    simp only [spec_l06At.l0]
    rw [hg, next64 _ (by omega)]
    unfold lastFrom
    refine ev_pos hlt (ev_pos (by omega) (ev_if (fun c1 => ev_if (fun c2 => ev_if (fun c3 => ?_) (fun c3 => ev_pos (by omega) (ev_pos (by omega) (ev_if (fun c4 => ?_) (fun c4 => ?_))))) (fun c2 => ?_)) (fun c1 => ?_)))
    · rw [if_pos ⟨c1, c2, .inl c3⟩]; exact ha
    · rw [if_pos ⟨c1, c2, .inr c4⟩]; exact ha
    · rw [if_neg (fun h => h.2.2.elim c3 c4)]; exact hb
    · rw [if_neg (fun h => c2 h.2.1)]; exact hb
    · rw [if_neg (fun h => c1 h.1)]; exact hb
theorem spec_last (l : List IVersion) (key : ByteArray) (snap : Int) (hl : l.length ≤ 1099511627776) : Ev (fun k => spec_l06At.f k l key snap) (lastM l key snap) := spec_last0 l key snap hl l [] (-1) rfl (by simp)
theorem impl_last0 (l : List IVersion) (key : ByteArray) (snap : Int) (hl : l.length ≤ 1099511627776) : ∀ (rest pre : List IVersion) (a : Int), l = pre ++ rest → (-1 ≤ a ∧ a < (pre.length : Int)) →
    Ev (fun k => impl_lastAt.l0 k l key snap a l (l.length : Int) (pre.length : Int)) (lastFrom l key snap rest pre.length a) := by
  intro rest
  induction rest with
  | nil =>
    intro pre a e h
    refine ev_step ?_
    simp only [impl_lastAt.l0]
    exact ev_neg (by rw [e]; simp) (Ev.now _)
  | cons v rest ih =>
    intro pre a e h
    have hg : rd_T101 l (pre.length : Int) = v := by unfold rd_T101; rw [Int.toNat_natCast, e, getD_mid]
    have hlt : (pre.length : Int) < (l.length : Int) := by rw [e]; exact len_mid _ _ _
    have ha := ih (pre ++ [v]) (pre.length : Int) (by simp [e]) (by rw [List.length_append, List.length_singleton]; omega)
    have hb := ih (pre ++ [v]) a (by simp [e]) (by rw [List.length_append, List.length_singleton]; omega)
    rw [List.length_append, List.length_singleton] at ha hb
    refine ev_step ?_
    simp only [impl_lastAt.l0]
    rw [hg, next64 _ (by omega)]
    unfold lastFrom
    refine ev_pos hlt (ev_pos (by omega) (ev_pos hlt (ev_if (fun c1 => ev_if (fun c2 => ev_if (fun c3 => ?_) (fun c3 => ev_pos (by omega) (ev_pos (by omega) (ev_if (fun c4 => ?_) (fun c4 => ?_))))) (fun c2 => ?_)) (fun c1 => ?_))))
    · rw [if_pos ⟨c1, c2, .inl c3⟩]; exact ha
    · rw [if_pos ⟨c1, c2, .inr c4⟩]; exact ha
    · rw [if_neg (fun h => h.2.2.elim c3 c4)]; exact hb
    · rw [if_neg (fun h => c2 h.2.1)]; exact hb
    · rw [if_neg (fun h => c1 h.1)]; exact hb
theorem impl_last (l : List IVersion) (key : ByteArray) (snap : Int) (hl : l.length ≤ 1099511627776) : Ev (fun k => impl_lastAt.f k l key snap) (lastM l key snap) := impl_last0 l key snap hl l [] (-1) rfl (by simp)

def seenM (l : List IVersion) (key : ByteArray) (snap : Int) : ByteArray × Bool :=
  if lastM l key snap < 0 then ((⟨#[]⟩ : ByteArray), false) else if (rd_T101 l (lastM l key snap)).f2 = true then ((⟨#[]⟩ : ByteArray), false) else ((rd_T101 l (lastM l key snap)).f1, true)
theorem spec_seen (l : List IVersion) (key : ByteArray) (snap : Int) (hl : l.length ≤ 1099511627776) : Ev (fun k => spec_SeenAt.f k l key snap) (seenM l key snap) := by
  unfold spec_SeenAt.f seenM
  have hr := lastM_range l key snap
  refine ev_bind (spec_last l key snap hl) (ev_if (fun c => ?_) (fun c => ev_pos (by omega) (ev_pos hr.2 (ev_if (fun d => ?_) (fun d => ?_)))))
  · rw [if_pos c]; exact Ev.now _
  · rw [if_neg c, if_pos d]; exact Ev.now _
  · rw [if_neg c, if_neg d]; exact Ev.now _
theorem impl_seen (l : List IVersion) (key : ByteArray) (snap : Int) (hl : l.length ≤ 1099511627776) : Ev (fun k => impl_SeenAt.f k l key snap) (seenM l key snap) := by
  unfold impl_SeenAt.f seenM
  have hr := lastM_range l key snap
  refine ev_bind (impl_last l key snap hl) (ev_if (fun c => ?_) (fun c => ev_pos (by omega) (ev_pos hr.2 (ev_if (fun d => ?_) (fun d => ?_)))))
  · rw [if_pos c]; exact Ev.now _
  · rw [if_neg c, if_pos d]; exact Ev.now _
  · rw [if_neg c, if_neg d]; exact Ev.now _

theorem FnExactSeenAt (l0 : List LVersion) (a1 : ByteArray) (a2 : Int) : l0.length ≤ 9223372036854775807 → (∀ x ∈ l0, x.f0.size ≤ 9223372036854775807 ∧ x.f1.size ≤ 9223372036854775807 ∧ (Lit.int .i64 x.f3).wf = true) → a1.size ≤ 9223372036854775807 → (Lit.int .i64 a2).wf = true → ∃ k, laws_FnExactSeenAt.f k l0 a1 a2 = some true := by
  intro h0 g0 h1 h2
  refine ev_at ?_
  unfold laws_FnExactSeenAt.f
  refine ev_if (fun _ => Ev.now _) (fun _ => ?_)
  obtain ⟨t, ht, hq⟩ := szVersionS_ok l0 1048576 h0 (fun x hx => ⟨(g0 x hx).1, (g0 x hx).2.1⟩) (by omega) (by omega)
  refine ev_bind ht ?_
  rcases hq with hq | ⟨q1, q2, q3, q4⟩
  · exact ev_pos hq (Ev.now _)
  · have d0 := toVersionS_ok l0 q3
    have m0 : (l0.map toVersionM).length = l0.length := by simp
    generalize l0.map toVersionM = a at d0 m0
    have b1 := spec_seen a a1 a2 (by omega)
    have b2 := impl_seen a a1 a2 (by omega)
    have e0 := eqVersionS_same a (by omega)
    refine ev_neg (by omega) (ev_bind d0 (ev_bind b1 (ev_bind d0 (ev_bind b2 (ev_pos rfl (ev_step ?_))))))
    simp only [laws_FnExactSeenAt.j0]
    exact ev_neg (by simp) (ev_bind d0 (ev_bind e0 (ev_pos rfl (Ev.now _))))

end Go.Proofs.Ytohdlnngfblmbaa.Pure
