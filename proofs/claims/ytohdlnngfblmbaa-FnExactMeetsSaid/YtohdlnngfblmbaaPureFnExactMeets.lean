/- The law FnExactMeets answers true at every two lists of writes. Conditions: lengths and sizes as the row gives them. -/
import Derived.Test.YtohdlnngfblmbaaQFnExactMeetsx2
import Derived.Test.YtohdlnngfblmbaaAid
namespace Go.Proofs.Ytohdlnngfblmbaa.Pure
open Go.RowKit Go.Proofs.Ytohdlnngfblmbaa.QFnExactMeets Go.Proofs.YtohdlnngfblmbaaW.PrintWords Go.Proofs.YtohdlnngfblmbaaW.PrintLast Go.Proofs.Ytohdlnngfblmbaa.Aid

/-! lists of Write: sizes, copies, a list is as itself -/
abbrev IWrite := S70
abbrev LWrite := S88
theorem szWrite_one (x : LWrite) (left : Int) (h0 : 0 ≤ left) (h1 : left ≤ 1048576) (ha : x.f0.size ≤ 9223372036854775807) (hb : x.f1.size ≤ 9223372036854775807) :
    ∃ t, laws_szWrite.f x.f0 x.f1 x.f2 left = some t ∧ (t < 0 ∨ (0 ≤ t ∧ (x.f0.size : Int) + x.f1.size + t = left)) := by
  unfold laws_szWrite.f
  rw [w64 (x := left - (x.f0.size : Int)) (by omega) (by omega)]
  by_cases c1 : left - (x.f0.size : Int) < 0
  · rw [if_pos c1]; exact ⟨_, rfl, .inl (by omega)⟩
  · rw [if_neg c1, w64 (x := left - (x.f0.size : Int) - (x.f1.size : Int)) (by omega) (by omega)]
    by_cases c2 : left - (x.f0.size : Int) - (x.f1.size : Int) < 0
    · rw [if_pos c2]; exact ⟨_, rfl, .inl (by omega)⟩
    · rw [if_neg c2]; exact ⟨_, rfl, .inr ⟨by omega, by omega⟩⟩
theorem szWriteS_l (l : List LWrite) (hl : l.length ≤ 9223372036854775807) (hs : ∀ x ∈ l, x.f0.size ≤ 9223372036854775807 ∧ x.f1.size ≤ 9223372036854775807) : ∀ (rest pre : List LWrite) (left : Int), l = pre ++ rest → 0 ≤ left → left ≤ 1048576 →
    ∃ t, Ev (fun k => laws_szWriteS.l0 k l left (pre.length : Int)) t ∧ (t < 0 ∨ (0 ≤ t ∧ t ≤ left ∧ ∀ x ∈ rest, x.f0.size ≤ 1048576 ∧ x.f1.size ≤ 1048576)) := by
  intro rest
  induction rest with
  | nil =>
    intro pre left e h0 h1
    refine ⟨left, ev_step ?_, .inr ⟨h0, Int.le_refl _, by simp⟩⟩
    simp only [laws_szWriteS.l0]
    exact ev_neg (by rw [e]; simp) (Ev.now _)
  | cons x rest ih =>
    intro pre left e h0 h1
    have hx := hs x (by rw [e]; simp)
    have hg : rd_T88 l (pre.length : Int) = x := by unfold rd_T88; rw [Int.toNat_natCast, e, getD_mid]
    have hlt : (pre.length : Int) < (l.length : Int) := by rw [e]; exact len_mid _ _ _
    obtain ⟨u, hu, hc⟩ := szWrite_one x left h0 h1 hx.1 hx.2
    rcases hc with hc | ⟨c1, c2⟩
    · refine ⟨-1, ev_step ?_, .inl (by omega)⟩
      simp only [laws_szWriteS.l0]
      rw [hg]
      exact ev_pos hlt (ev_pos (by omega) (ev_cbind hu (ev_pos hc (Ev.now _))))
    · obtain ⟨t, ht, hq⟩ := ih (pre ++ [x]) u (by simp [e]) c1 (by omega)
      refine ⟨t, ev_step ?_, ?_⟩
      · simp only [laws_szWriteS.l0]
        rw [hg, next64 _ (by have := hl; omega)]
        rw [List.length_append, List.length_singleton] at ht
        exact ev_pos hlt (ev_pos (by omega) (ev_cbind hu (ev_neg (by omega) ht)))
      · rcases hq with hq | ⟨q1, q2, q3⟩
        · exact .inl hq
        · refine .inr ⟨q1, by omega, ?_⟩
          intro s hs2
          rcases List.mem_cons.1 hs2 with rfl | hs2
          · exact ⟨by omega, by omega⟩
          · exact q3 s hs2
theorem szWriteS_ok (l : List LWrite) (left : Int) (hl : l.length ≤ 9223372036854775807) (hs : ∀ x ∈ l, x.f0.size ≤ 9223372036854775807 ∧ x.f1.size ≤ 9223372036854775807) (h0 : 0 ≤ left) (h1 : left ≤ 1048576) :
    ∃ t, Ev (fun k => laws_szWriteS.f k l left) t ∧ (t < 0 ∨ (0 ≤ t ∧ t ≤ left ∧ l.length ≤ 1048576 ∧ ∀ x ∈ l, x.f0.size ≤ 1048576 ∧ x.f1.size ≤ 1048576)) := by
  unfold laws_szWriteS.f
  have hw : wrap64 (left - (l.length : Int)) = left - (l.length : Int) := w64 (by omega) (by omega)
  rw [hw]
  by_cases c : left - (l.length : Int) < 0
  · exact ⟨-1, ev_pos c (Ev.now _), .inl (by omega)⟩
  · obtain ⟨t, ht, hq⟩ := szWriteS_l l hl hs l [] (left - (l.length : Int)) rfl (by omega) (by omega)
    refine ⟨t, ev_neg c ht, ?_⟩
    rcases hq with hq | ⟨q1, q2, q3⟩
    · exact .inl hq
    · exact .inr ⟨q1, by omega, by omega, q3⟩
def toWriteM (x : LWrite) : IWrite := ⟨x.f0, x.f1, x.f2⟩
theorem toWriteS_l (l : List LWrite) (hl : l.length ≤ 1048576) : ∀ (rest pre : List LWrite), l = pre ++ rest → Ev (fun k => laws_toWriteS.l0 k l (pre.map toWriteM ++ List.replicate rest.length z70) (pre.length : Int)) (l.map toWriteM) := by
  intro rest
  induction rest with
  | nil =>
    intro pre e
    refine ev_step ?_
    simp only [laws_toWriteS.l0]
    exact ev_neg (by rw [e]; simp) (ev_now (by rw [e]; simp))
  | cons x rest ih =>
    intro pre e
    refine ev_step ?_
    simp only [laws_toWriteS.l0]
    have hg : rd_T88 l (pre.length : Int) = x := by unfold rd_T88; rw [Int.toNat_natCast, e, getD_mid]
    have hlt : (pre.length : Int) < (l.length : Int) := by rw [e]; exact len_mid _ _ _
    have h := ih (pre ++ [x]) (by simp [e])
    rw [List.length_append, List.length_singleton] at h
    have hm : (pre.map toWriteM).length = pre.length := by simp
    rw [hg, next64 _ (by omega), Int.toNat_natCast, List.length_cons, List.replicate_succ]
    refine ev_pos hlt (ev_pos (by omega) (ev_cbind rfl (ev_pos (by simp; omega) ?_)))
    rw [← hm, set_mid, hm]
    rw [List.map_append, List.append_assoc] at h
    exact h
theorem toWriteS_ok (l : List LWrite) (hl : l.length ≤ 1048576) : Ev (fun k => laws_toWriteS.f k l) (l.map toWriteM) := by
  unfold laws_toWriteS.f
  rw [Int.toNat_natCast]
  exact ev_pos (by omega) (ev_pos (by omega) (toWriteS_l l hl l [] rfl))
theorem eqWrite_same (x : IWrite) : laws_eqWrite.f x.f0 x.f1 x.f2 x.f0 x.f1 x.f2 = some true := by unfold laws_eqWrite.f; simp
theorem eqWriteS_l (l : List IWrite) (hl : l.length ≤ 9223372036854775800) : ∀ (rest pre : List IWrite), l = pre ++ rest → Ev (fun k => laws_eqWriteS.l0 k l l (pre.length : Int)) true := by
  intro rest
  induction rest with
  | nil =>
    intro pre e
    refine ev_step ?_
    simp only [laws_eqWriteS.l0]
    exact ev_neg (by rw [e]; simp) (Ev.now _)
  | cons x rest ih =>
    intro pre e
    refine ev_step ?_
    simp only [laws_eqWriteS.l0]
    have hlt : (pre.length : Int) < (l.length : Int) := by rw [e]; exact len_mid _ _ _
    have h := ih (pre ++ [x]) (by simp [e])
    rw [List.length_append, List.length_singleton] at h
    rw [next64 _ (by omega)]
    exact ev_pos hlt (ev_pos (by omega) (ev_pos hlt (ev_cbind (eqWrite_same _) (ev_pos rfl h))))
theorem eqWriteS_same (l : List IWrite) (hl : l.length ≤ 9223372036854775800) : Ev (fun k => laws_eqWriteS.f k l l) true := by
  unfold laws_eqWriteS.f
  exact ev_pos rfl (eqWriteS_l l hl l [] rfl)

/-! two loops, one in the other: Meets -/
theorem spec_Meets_l1 (a : List IWrite) (b : List IWrite) (hb : b.length ≤ 1048576) (r : Bool) (i : Nat) (hi : i < a.length) (x : IWrite) (hx : rd_T70 a (i : Int) = x) : ∀ (rest pre : List IWrite), b = pre ++ rest → Ev (fun k => spec_Meets.l0 k a b (wrap64 ((i : Int) + 1))) r →
    Ev (fun k => spec_Meets.l1 k a b (i : Int) (pre.length : Int)) (rest.any (fun y => decide (x.f0.toList = y.f0.toList)) || r) := by
  intro rest
  induction rest with
  | nil =>
    intro pre e h
    refine ev_step ?_
    simp only [spec_Meets.l1]
    exact ev_neg (by rw [e]; simp) h
  | cons y rest ih =>
    intro pre e h
    have hg : rd_T70 b (pre.length : Int) = y := by unfold rd_T70; rw [Int.toNat_natCast, e, getD_mid]
    have hlt : (pre.length : Int) < (b.length : Int) := by rw [e]; exact len_mid _ _ _
    have h2 := ih (pre ++ [y]) (by simp [e]) h
    rw [List.length_append, List.length_singleton] at h2
    refine ev_step ?_
    simp only [spec_Meets.l1]
    rw [hg, hx, next64 pre.length (by omega), List.any_cons]
    refine ev_pos hlt (ev_pos (by omega) (ev_pos (by omega) (ev_pos (by omega) ?_)))
    by_cases c : x.f0.toList = y.f0.toList
    · rw [decide_eq_true c]; exact ev_pos c (Ev.now _)
    · rw [decide_eq_false c]; exact ev_neg c h2
theorem spec_Meets_l0 (a : List IWrite) (b : List IWrite) (ha : a.length ≤ 1048576) (hb : b.length ≤ 1048576) : ∀ (rest pre : List IWrite), a = pre ++ rest → Ev (fun k => spec_Meets.l0 k a b (pre.length : Int)) (rest.any fun x => b.any fun y => decide (x.f0.toList = y.f0.toList)) := by
  intro rest
  induction rest with
  | nil =>
    intro pre e
    refine ev_step ?_
    simp only [spec_Meets.l0]
    exact ev_neg (by rw [e]; simp) (Ev.now _)
  | cons x rest ih =>
    intro pre e
    have hg : rd_T70 a (pre.length : Int) = x := by unfold rd_T70; rw [Int.toNat_natCast, e, getD_mid]
    have hlt : (pre.length : Int) < (a.length : Int) := by rw [e]; exact len_mid _ _ _
    have h2 := ih (pre ++ [x]) (by simp [e])
    rw [List.length_append, List.length_singleton] at h2
    refine ev_step ?_
    simp only [spec_Meets.l0]
    refine ev_pos hlt ?_
    rw [List.any_cons]
    refine spec_Meets_l1 a b hb _ pre.length (by omega) x hg b [] rfl ?_
    rw [next64 _ (by omega)]
    exact h2
theorem spec_Meets_ok (a : List IWrite) (b : List IWrite) (ha : a.length ≤ 1048576) (hb : b.length ≤ 1048576) : Ev (fun k => spec_Meets.f k a b) (a.any fun x => b.any fun y => decide (x.f0.toList = y.f0.toList)) := spec_Meets_l0 a b ha hb a [] rfl
theorem impl_Meets_l1 (a : List IWrite) (b : List IWrite) (hb : b.length ≤ 1048576) (r : Bool) (i : Nat) (x : IWrite) : ∀ (rest pre : List IWrite), b = pre ++ rest → Ev (fun k => impl_Meets.l0 k b a (a.length : Int) (wrap64 ((i : Int) + 1))) r →
    Ev (fun k => impl_Meets.l1 k b a (a.length : Int) (i : Int) b (b.length : Int) (pre.length : Int) x.f0 x.f1 x.f2) (rest.any (fun y => decide (x.f0.toList = y.f0.toList)) || r) := by
  intro rest
  induction rest with
  | nil =>
    intro pre e h
    refine ev_step ?_
    simp only [impl_Meets.l1]
    exact ev_neg (by rw [e]; simp) h
  | cons y rest ih =>
    intro pre e h
    have hg : rd_T70 b (pre.length : Int) = y := by unfold rd_T70; rw [Int.toNat_natCast, e, getD_mid]
    have hlt : (pre.length : Int) < (b.length : Int) := by rw [e]; exact len_mid _ _ _
    have h2 := ih (pre ++ [y]) (by simp [e]) h
    rw [List.length_append, List.length_singleton] at h2
    refine ev_step ?_
    simp only [impl_Meets.l1]
    rw [hg, next64 pre.length (by omega), List.any_cons]
    refine ev_pos hlt (ev_pos (by omega) (ev_pos hlt ?_))
    by_cases c : x.f0.toList = y.f0.toList
    · rw [decide_eq_true c]; exact ev_pos c (Ev.now _)
    · rw [decide_eq_false c]; exact ev_neg c h2
theorem impl_Meets_l0 (a : List IWrite) (b : List IWrite) (ha : a.length ≤ 1048576) (hb : b.length ≤ 1048576) : ∀ (rest pre : List IWrite), a = pre ++ rest → Ev (fun k => impl_Meets.l0 k b a (a.length : Int) (pre.length : Int)) (rest.any fun x => b.any fun y => decide (x.f0.toList = y.f0.toList)) := by
  intro rest
  induction rest with
  | nil =>
    intro pre e
    refine ev_step ?_
    simp only [impl_Meets.l0]
    exact ev_neg (by rw [e]; simp) (Ev.now _)
  | cons x rest ih =>
    intro pre e
    have hg : rd_T70 a (pre.length : Int) = x := by unfold rd_T70; rw [Int.toNat_natCast, e, getD_mid]
    have hlt : (pre.length : Int) < (a.length : Int) := by rw [e]; exact len_mid _ _ _
    have h2 := ih (pre ++ [x]) (by simp [e])
    rw [List.length_append, List.length_singleton] at h2
    refine ev_step ?_
    simp only [impl_Meets.l0]
    rw [hg]
    refine ev_pos hlt (ev_pos (by omega) (ev_pos hlt ?_))
    rw [List.any_cons]
    refine impl_Meets_l1 a b hb _ pre.length x b [] rfl ?_
    rw [next64 _ (by omega)]
    exact h2
theorem impl_Meets_ok (a : List IWrite) (b : List IWrite) (ha : a.length ≤ 1048576) (hb : b.length ≤ 1048576) : Ev (fun k => impl_Meets.f k a b) (a.any fun x => b.any fun y => decide (x.f0.toList = y.f0.toList)) := impl_Meets_l0 a b ha hb a [] rfl

theorem FnExactMeets (l0 : List LWrite) (l1 : List LWrite) : l0.length ≤ 9223372036854775807 → (∀ x ∈ l0, x.f0.size ≤ 9223372036854775807 ∧ x.f1.size ≤ 9223372036854775807) → l1.length ≤ 9223372036854775807 → (∀ x ∈ l1, x.f0.size ≤ 9223372036854775807 ∧ x.f1.size ≤ 9223372036854775807) → ∃ k, laws_FnExactMeets.f k l0 l1 = some true := by
  intro h0 g0 h1 g1
  refine ev_at ?_
  unfold laws_FnExactMeets.f
  obtain ⟨t, ht, hq⟩ := szWriteS_ok l0 1048576 h0 g0 (by omega) (by omega)
  refine ev_bind ht ?_
  rcases hq with hq | ⟨q1, q2, q3, q4⟩
  · exact ev_pos hq (Ev.now _)
  · obtain ⟨u, hu, hr⟩ := szWriteS_ok l1 t h1 g1 q1 (by omega)
    refine ev_neg (by omega) (ev_bind hu ?_)
    rcases hr with hr | ⟨r1, r2, r3, r4⟩
    · exact ev_pos hr (Ev.now _)
    · have d0 := toWriteS_ok l0 q3
      have d1 := toWriteS_ok l1 r3
      have m0 : (l0.map toWriteM).length = l0.length := by simp
      have m1 : (l1.map toWriteM).length = l1.length := by simp
      generalize l0.map toWriteM = a at d0 m0
      generalize l1.map toWriteM = b at d1 m1
      have b1 := spec_Meets_ok a b (by omega) (by omega)
      have b2 := impl_Meets_ok a b (by omega) (by omega)
      have e0 := eqWriteS_same a (by omega)
      have e1 := eqWriteS_same b (by omega)
      exact ev_neg (by omega) (ev_bind d0 (ev_bind d1 (ev_bind b1 (ev_bind d0 (ev_bind d1 (ev_bind b2 (ev_neg (by simp) (ev_bind d0 (ev_bind e0 (ev_pos rfl (ev_bind d1 (ev_bind e1 (ev_pos rfl (Ev.now _))))))))))))))

end Go.Proofs.Ytohdlnngfblmbaa.Pure
