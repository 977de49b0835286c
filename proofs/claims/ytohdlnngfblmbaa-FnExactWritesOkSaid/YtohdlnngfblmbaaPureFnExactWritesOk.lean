/- The law FnExactWritesOk answers true at every list of writes. Conditions: lengths and sizes as the row gives them. -/
import Derived.Test.YtohdlnngfblmbaaQFnExactWritesOkx6
import Derived.Test.YtohdlnngfblmbaaAid
namespace Go.Proofs.Ytohdlnngfblmbaa.Pure
open Go.RowKit Go.Proofs.Ytohdlnngfblmbaa.QFnExactWritesOk Go.Proofs.YtohdlnngfblmbaaW.PrintWords Go.Proofs.YtohdlnngfblmbaaW.PrintLast Go.Proofs.Ytohdlnngfblmbaa.Aid

/-! lists of Write: sizes, copies, a list is as itself -/
abbrev IWrite := S70
abbrev LWrite := S88
theorem szWrite_one (x : LWrite) (left : Int) (h0 : 0 ≤ left) (h1 : left ≤ 1048576) (ha : x.f0.size ≤ 9223372036854775807) (hb : x.f1.size ≤ 9223372036854775807) :
    ∃ t, laws_szWrite.f x.f0 x.f1 x.f2 left = some t ∧ (t < 0 ∨ (0 ≤ t ∧ (x.f0.size : Int) + x.f1.size + t = left)) := by
  unfold laws_szWrite.f
  rw [w64 (x := left - (x.f0.size : Int)) (by omega) (by omega)]
  by_cases c1 : left - (x.f0.size : Int) < 0
  · rw [if_pos c1]; exact ⟨_, rfl, .inl (by omega)⟩
  · rw [if_neg c1, w64 (x := left - (x.f0.size : Int) - (x.f1.size : Int)) (by omega) (by omega)]
    by_cases c2 : left - (x.f0.size : Int) - (x.f1.size : Int) < 0
    · rw [if_pos c2]; exact ⟨_, rfl, .inl (by omega)⟩
    · rw [if_neg c2]; exact ⟨_, rfl, .inr ⟨by omega, by omega⟩⟩
theorem szWriteS_l (l : List LWrite) (hl : l.length ≤ 9223372036854775807) (hs : ∀ x ∈ l, x.f0.size ≤ 9223372036854775807 ∧ x.f1.size ≤ 9223372036854775807) : ∀ (rest pre : List LWrite) (left : Int), l = pre ++ rest → 0 ≤ left → left ≤ 1048576 →
    ∃ t, Ev (fun k => laws_szWriteS.l0 k l left (pre.length : Int)) t ∧ (t < 0 ∨ (0 ≤ t ∧ t ≤ left ∧ ∀ x ∈ rest, x.f0.size ≤ 1048576 ∧ x.f1.size ≤ 1048576)) := by
  intro rest
  induction rest with
  | nil =>
    intro pre left e h0 h1
    refine ⟨left, ev_step ?_, .inr ⟨h0, Int.le_refl _, by simp⟩⟩
    simp only [laws_szWriteS.l0]
    exact ev_neg (by rw [e]; simp) (Ev.now _)
  | cons x rest ih =>
    intro pre left e h0 h1
    have hx := hs x (by rw [e]; simp)
    have hg : rd_T88 l (pre.length : Int) = x := by unfold rd_T88; rw [Int.toNat_natCast, e, getD_mid]
    have hlt : (pre.length : Int) < (l.length : Int) := by rw [e]; exact len_mid _ _ _
    obtain ⟨u, hu, hc⟩ := szWrite_one x left h0 h1 hx.1 hx.2
    rcases hc with hc | ⟨c1, c2⟩
    · refine ⟨-1, ev_step ?_, .inl (by omega)⟩
      simp only [laws_szWriteS.l0]
      rw [hg]
      exact ev_pos hlt (ev_pos (by omega) (ev_cbind hu (ev_pos hc (Ev.now _))))
    · obtain ⟨t, ht, hq⟩ := ih (pre ++ [x]) u (by simp [e]) c1 (by omega)
      refine ⟨t, ev_step ?_, ?_⟩
      · simp only [laws_szWriteS.l0]
        rw [hg, next64 _ (by have := hl; omega)]
        rw [List.length_append, List.length_singleton] at ht
        exact ev_pos hlt (ev_pos (by omega) (ev_cbind hu (ev_neg (by omega) ht)))
      · rcases hq with hq | ⟨q1, q2, q3⟩
        · exact .inl hq
        · refine .inr ⟨q1, by omega, ?_⟩
          intro s hs2
          rcases List.mem_cons.1 hs2 with rfl | hs2
          · exact ⟨by omega, by omega⟩
          · exact q3 s hs2
theorem szWriteS_ok (l : List LWrite) (left : Int) (hl : l.length ≤ 9223372036854775807) (hs : ∀ x ∈ l, x.f0.size ≤ 9223372036854775807 ∧ x.f1.size ≤ 9223372036854775807) (h0 : 0 ≤ left) (h1 : left ≤ 1048576) :
    ∃ t, Ev (fun k => laws_szWriteS.f k l left) t ∧ (t < 0 ∨ (0 ≤ t ∧ t ≤ left ∧ l.length ≤ 1048576 ∧ ∀ x ∈ l, x.f0.size ≤ 1048576 ∧ x.f1.size ≤ 1048576)) := by
  unfold laws_szWriteS.f
  have hw : wrap64 (left - (l.length : Int)) = left - (l.length : Int) := w64 (by omega) (by omega)
  rw [hw]
  by_cases c : left - (l.length : Int) < 0
  · exact ⟨-1, ev_pos c (Ev.now _), .inl (by omega)⟩
  · obtain ⟨t, ht, hq⟩ := szWriteS_l l hl hs l [] (left - (l.length : Int)) rfl (by omega) (by omega)
    refine ⟨t, ev_neg c ht, ?_⟩
    rcases hq with hq | ⟨q1, q2, q3⟩
    · exact .inl hq
    · exact .inr ⟨q1, by omega, by omega, q3⟩
def toWriteM (x : LWrite) : IWrite := ⟨x.f0, x.f1, x.f2⟩
theorem toWriteS_l (l : List LWrite) (hl : l.length ≤ 1048576) : ∀ (rest pre : List LWrite), l = pre ++ rest → Ev (fun k => laws_toWriteS.l0 k l (pre.map toWriteM ++ List.replicate rest.length z70) (pre.length : Int)) (l.map toWriteM) := by
  intro rest
  induction rest with
  | nil =>
    intro pre e
    refine ev_step ?_
    simp only [laws_toWriteS.l0]
    exact ev_neg (by rw [e]; simp) (ev_now (by rw [e]; simp))
  | cons x rest ih =>
    intro pre e
    refine ev_step ?_
    simp only [laws_toWriteS.l0]
    have hg : rd_T88 l (pre.length : Int) = x := by unfold rd_T88; rw [Int.toNat_natCast, e, getD_mid]
    have hlt : (pre.length : Int) < (l.length : Int) := by rw [e]; exact len_mid _ _ _
    have h := ih (pre ++ [x]) (by simp [e])
    rw [List.length_append, List.length_singleton] at h
    have hm : (pre.map toWriteM).length = pre.length := by simp
    rw [hg, next64 _ (by omega), Int.toNat_natCast, List.length_cons, List.replicate_succ]
    refine ev_pos hlt (ev_pos (by omega) (ev_cbind rfl (ev_pos (by simp; omega) ?_)))
    rw [← hm, set_mid, hm]
    rw [List.map_append, List.append_assoc] at h
    exact h
theorem toWriteS_ok (l : List LWrite) (hl : l.length ≤ 1048576) : Ev (fun k => laws_toWriteS.f k l) (l.map toWriteM) := by
  unfold laws_toWriteS.f
  rw [Int.toNat_natCast]
  exact ev_pos (by omega) (ev_pos (by omega) (toWriteS_l l hl l [] rfl))
theorem eqWrite_same (x : IWrite) : laws_eqWrite.f x.f0 x.f1 x.f2 x.f0 x.f1 x.f2 = some true := by unfold laws_eqWrite.f; simp
theorem eqWriteS_l (l : List IWrite) (hl : l.length ≤ 9223372036854775800) : ∀ (rest pre : List IWrite), l = pre ++ rest → Ev (fun k => laws_eqWriteS.l0 k l l (pre.length : Int)) true := by
  intro rest
  induction rest with
  | nil =>
    intro pre e
    refine ev_step ?_
    simp only [laws_eqWriteS.l0]
    exact ev_neg (by rw [e]; simp) (Ev.now _)
  | cons x rest ih =>
    intro pre e
    refine ev_step ?_
    simp only [laws_eqWriteS.l0]
    have hlt : (pre.length : Int) < (l.length : Int) := by rw [e]; exact len_mid _ _ _
    have h := ih (pre ++ [x]) (by simp [e])
    rw [List.length_append, List.length_singleton] at h
    rw [next64 _ (by omega)]
    exact ev_pos hlt (ev_pos (by omega) (ev_pos hlt (ev_cbind (eqWrite_same _) (ev_pos rfl h))))
theorem eqWriteS_same (l : List IWrite) (hl : l.length ≤ 9223372036854775800) : Ev (fun k => laws_eqWriteS.f k l l) true := by
  unfold laws_eqWriteS.f
  exact ev_pos rfl (eqWriteS_l l hl l [] rfl)

/-- Both answers on keys, from a place on. -/
theorem keyOk_l (s : ByteArray) (hs : s.size ≤ 140737488351232) : ∀ (d i : Nat), i + d = s.size → ∃ r, Ev (fun k => spec_KeyOk.l0 k s i) r ∧ Ev (fun k => impl_KeyOk.l0 k s i) r := by
  intro d
  induction d with
  | zero =>
    intro i hi
    obtain ⟨v, hv⟩ : ∃ v, impl_within.f (s.size : Int) 1 3 = some v := by unfold impl_within.f; split <;> exact ⟨_, rfl⟩
    have hv2 : spec_l01In.f (s.size : Int) 1 3 = some v := hv
    refine ⟨v, ev_step ?_, ev_step ?_⟩
    · simp only [spec_KeyOk.l0]
      exact ev_neg (by omega) (ev_cbind hv2 (Ev.now _))
    · simp only [impl_KeyOk.l0]
      exact ev_neg (by omega) (ev_cbind hv (Ev.now _))
  | succ d ih =>
    intro i hi
    by_cases h1 : bt s i < 97
    · refine ⟨false, ev_step ?_, ev_step ?_⟩
      · simp only [spec_KeyOk.l0]
        exact ev_pos (by omega) (ev_pos (by omega) (ev_pos h1 (Ev.now _)))
      · simp only [impl_KeyOk.l0]
        exact ev_pos (by omega) (ev_pos (by omega) (ev_pos h1 (Ev.now _)))
    · by_cases h2 : bt s i > 122
      · refine ⟨false, ev_step ?_, ev_step ?_⟩
        · simp only [spec_KeyOk.l0]
          exact ev_pos (by omega) (ev_pos (by omega) (ev_neg h1 (ev_pos h2 (Ev.now _))))
        · simp only [impl_KeyOk.l0]
          exact ev_pos (by omega) (ev_pos (by omega) (ev_neg h1 (ev_pos h2 (Ev.now _))))
      · obtain ⟨r, e1, e2⟩ := ih (i + 1) (by omega)
        have e : wrap64 ((i : Int) + 1) = ((i + 1 : Nat) : Int) := by rw [w64 (by omega) (by omega)]; omega
        refine ⟨r, ev_step ?_, ev_step ?_⟩
        · simp only [spec_KeyOk.l0]
          refine ev_pos (by omega) (ev_pos (by omega) (ev_neg h1 (ev_neg h2 ?_)))
          rw [e]; exact e1
        · simp only [impl_KeyOk.l0]
          refine ev_pos (by omega) (ev_pos (by omega) (ev_neg h1 (ev_neg h2 ?_)))
          rw [e]; exact e2
theorem keyOk_both (s : ByteArray) (hs : s.size ≤ 140737488351232) : ∃ r, Ev (fun k => spec_KeyOk.f k s) r ∧ Ev (fun k => impl_KeyOk.f k s) r := keyOk_l s hs s.size 0 (by omega)

theorem writeOk_both (a b : ByteArray) (g : Bool) (ha : a.size ≤ 140737488351232) : ∃ r, Ev (fun k => spec_WriteOk.f k a b g) r ∧ Ev (fun k => impl_WriteOk.f k a b g) r := by
  obtain ⟨r1, e1, f1⟩ := keyOk_both a ha
  unfold spec_WriteOk.f impl_WriteOk.f
  cases r1 with
  | false => exact ⟨false, ev_bind e1 (ev_neg (by simp) (Ev.now _)), ev_bind f1 (ev_neg (by simp) (Ev.now _))⟩
  | true =>
    by_cases c : (b.size : Int) ≤ 12
    · cases g with
      | true => exact ⟨_, ev_bind e1 (ev_pos rfl (ev_pos c (ev_pos rfl (Ev.now _)))), ev_bind f1 (ev_pos rfl (ev_pos c (ev_pos rfl (Ev.now _))))⟩
      | false => exact ⟨_, ev_bind e1 (ev_pos rfl (ev_pos c (ev_neg (by simp) (Ev.now _)))), ev_bind f1 (ev_pos rfl (ev_pos c (ev_neg (by simp) (Ev.now _))))⟩
    · exact ⟨_, ev_bind e1 (ev_pos rfl (ev_neg c (Ev.now _))), ev_bind f1 (ev_pos rfl (ev_neg c (Ev.now _)))⟩

/-! writes are right -/
theorem writesOk_l (l : List IWrite) (hl : l.length ≤ 1048576) (hz : ∀ x ∈ l, x.f0.size ≤ 140737488351232) : ∀ (rest pre : List IWrite), l = pre ++ rest →
    ∃ r, Ev (fun k => spec_WritesOk.l0 k l (pre.length : Int)) r ∧ Ev (fun k => impl_WritesOk.l0 k l l (l.length : Int) (pre.length : Int)) r := by
  intro rest
  induction rest with
  | nil =>
    intro pre e
    have hn : ¬ (pre.length : Int) < (l.length : Int) := by rw [e]; simp
    refine ⟨decide ((l.length : Int) ≤ 8), ev_step ?_, ev_step ?_⟩
    · simp only [spec_WritesOk.l0]
      exact ev_neg hn (Ev.now _)
    · simp only [impl_WritesOk.l0]
      exact ev_neg hn (Ev.now _)
  | cons x rest ih =>
    intro pre e
    have hg : rd_T70 l (pre.length : Int) = x := by unfold rd_T70; rw [Int.toNat_natCast, e, getD_mid]
    have hlt : (pre.length : Int) < (l.length : Int) := by rw [e]; exact len_mid _ _ _
    obtain ⟨r, i1, i2⟩ := ih (pre ++ [x]) (by simp [e])
    rw [List.length_append, List.length_singleton] at i1 i2
    obtain ⟨v, w1, w2⟩ := writeOk_both x.f0 x.f1 x.f2 (hz x (by rw [e]; simp))
    have hw : wrap64 ((pre.length : Int) - 1) = (pre.length : Int) - 1 := w64 (by omega) (by omega)
    cases v with
    | false =>
      refine ⟨false, ev_step ?_, ev_step ?_⟩
      · simp only [spec_WritesOk.l0]
        rw [hg]
        exact ev_pos hlt (ev_pos (by omega) (ev_bind w1 (ev_neg (by simp) (Ev.now _))))
      · simp only [impl_WritesOk.l0]
        rw [hg]
        exact ev_pos hlt (ev_pos (by omega) (ev_pos hlt (ev_bind w2 (ev_neg (by simp) (Ev.now _)))))
    | true =>
      by_cases c : (pre.length : Int) > 0
      · by_cases d : ((Op.bytesLess (((rd_T70 l ((pre.length : Int) - 1)).f0).toList) ((x.f0).toList)) = true)
        · refine ⟨r, ev_step ?_, ev_step ?_⟩
          · simp only [spec_WritesOk.l0]
            rw [hg, hw, next64 _ (by omega)]
            exact ev_pos hlt (ev_pos (by omega) (ev_bind w1 (ev_pos rfl (ev_pos c (ev_pos (by omega) (ev_pos (by omega) (ev_pos d i1)))))))
          · simp only [impl_WritesOk.l0]
            rw [hg, hw, next64 _ (by omega)]
            exact ev_pos hlt (ev_pos (by omega) (ev_pos hlt (ev_bind w2 (ev_pos rfl (ev_pos c (ev_pos (by omega) (ev_pos (by omega) (ev_pos d i2))))))))
        · refine ⟨false, ev_step ?_, ev_step ?_⟩
          · simp only [spec_WritesOk.l0]
            rw [hg, hw, next64 _ (by omega)]
            exact ev_pos hlt (ev_pos (by omega) (ev_bind w1 (ev_pos rfl (ev_pos c (ev_pos (by omega) (ev_pos (by omega) (ev_neg d (Ev.now _))))))))
          · simp only [impl_WritesOk.l0]
            rw [hg, hw, next64 _ (by omega)]
            exact ev_pos hlt (ev_pos (by omega) (ev_pos hlt (ev_bind w2 (ev_pos rfl (ev_pos c (ev_pos (by omega) (ev_pos (by omega) (ev_neg d (Ev.now _)))))))))
      · refine ⟨r, ev_step ?_, ev_step ?_⟩
        · simp only [spec_WritesOk.l0]
          rw [hg, next64 _ (by omega)]
          exact ev_pos hlt (ev_pos (by omega) (ev_bind w1 (ev_pos rfl (ev_neg c i1))))
        · simp only [impl_WritesOk.l0]
          rw [hg, next64 _ (by omega)]
          exact ev_pos hlt (ev_pos (by omega) (ev_pos hlt (ev_bind w2 (ev_pos rfl (ev_neg c i2)))))
theorem writesOk_both (l : List IWrite) (hl : l.length ≤ 1048576) (hz : ∀ x ∈ l, x.f0.size ≤ 140737488351232) : ∃ r, Ev (fun k => spec_WritesOk.f k l) r ∧ Ev (fun k => impl_WritesOk.f k l) r := writesOk_l l hl hz l [] rfl

theorem FnExactWritesOk (l0 : List LWrite) : l0.length ≤ 9223372036854775807 → (∀ x ∈ l0, x.f0.size ≤ 9223372036854775807 ∧ x.f1.size ≤ 9223372036854775807) → ∃ k, laws_FnExactWritesOk.f k l0 = some true := by
  intro h0 g0
  refine ev_at ?_
  unfold laws_FnExactWritesOk.f
  obtain ⟨t, ht, hq⟩ := szWriteS_ok l0 1048576 h0 g0 (by omega) (by omega)
  refine ev_bind ht ?_
  rcases hq with hq | ⟨q1, q2, q3, q4⟩
  · exact ev_pos hq (Ev.now _)
  · have d0 := toWriteS_ok l0 q3
    have m0 : (l0.map toWriteM).length = l0.length := by simp
    have hz : ∀ x ∈ l0.map toWriteM, x.f0.size ≤ 140737488351232 := by
      intro x hx
      obtain ⟨y, hy, rfl⟩ := List.mem_map.1 hx
      have := (q4 y hy).1
      show y.f0.size ≤ _
      omega
    generalize l0.map toWriteM = a at d0 m0 hz
    obtain ⟨r, b1, b2⟩ := writesOk_both a (by omega) hz
    have e0 := eqWriteS_same a (by omega)
    exact ev_neg (by omega) (ev_bind d0 (ev_bind b1 (ev_bind d0 (ev_bind b2 (ev_neg (by simp) (ev_bind d0 (ev_bind e0 (ev_pos rfl (Ev.now _)))))))))

end Go.Proofs.Ytohdlnngfblmbaa.Pure
