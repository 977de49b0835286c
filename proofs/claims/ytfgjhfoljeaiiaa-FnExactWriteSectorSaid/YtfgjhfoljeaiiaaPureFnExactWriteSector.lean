/- The law FnExactWriteSector answers true at every disk and argument. Conditions: lengths and sizes as the row gives them. -/
import Derived.Test.YtfgjhfoljeaiiaaQFnExactWriteSectorx6
import Derived.Test.YtfgjhfoljeaiiaaAid
namespace Go.Proofs.Ytfgjhfoljeaiiaa.Pure
open Go.RowKit Go.Proofs.Ytfgjhfoljeaiiaa.QFnExactWriteSector Go.Proofs.YtfgjhfoljeaiiaaW.PrintWords Go.Proofs.YtfgjhfoljeaiiaaW.PrintLast Go.Proofs.Ytfgjhfoljeaiiaa.Aid

abbrev IPut := S64
abbrev LPut := S80
/-! what the laws' own helpers tell: sizes -/
theorem szStringS_l (l : List ByteArray) (hl : l.length ≤ 9223372036854775807) (hs : ∀ s ∈ l, s.size ≤ 9223372036854775807) : ∀ (rest pre : List ByteArray) (left : Int), l = pre ++ rest → 0 ≤ left → left ≤ 1048576 →
    ∃ t, Ev (fun k => laws_szStringS.l0 k l left (pre.length : Int)) t ∧ (t < 0 ∨ (0 ≤ t ∧ t ≤ left ∧ ∀ s ∈ rest, s.size ≤ 1048576)) := by
  intro rest
  induction rest with
  | nil =>
    intro pre left e h0 h1
    refine ⟨left, ev_step ?_, .inr ⟨h0, Int.le_refl _, by simp⟩⟩
    simp only [laws_szStringS.l0]
    exact ev_neg (by rw [e]; simp) (Ev.now _)
  | cons x rest ih =>
    intro pre left e h0 h1
    have hx : x.size ≤ 9223372036854775807 := hs x (by rw [e]; simp)
    have hg : rdOf ByteArray.empty l (pre.length : Int) = x := by unfold rdOf; rw [Int.toNat_natCast, e, getD_mid]
    have hlt : (pre.length : Int) < (l.length : Int) := by rw [e]; exact len_mid _ _ _
    have hw : wrap64 (left - (x.size : Int)) = left - (x.size : Int) := w64 (by omega) (by omega)
    by_cases c : left - (x.size : Int) < 0
    · refine ⟨-1, ev_step ?_, .inl (by omega)⟩
      simp only [laws_szStringS.l0]
      rw [hg, hw]
      exact ev_pos hlt (ev_pos (by omega) (ev_pos c (Ev.now _)))
    · obtain ⟨t, ht, hq⟩ := ih (pre ++ [x]) (left - (x.size : Int)) (by simp [e]) (by omega) (by omega)
      refine ⟨t, ev_step ?_, ?_⟩
      · simp only [laws_szStringS.l0]
        rw [hg, hw, next64 _ (by have := hl; omega)]
        rw [List.length_append, List.length_singleton] at ht
        exact ev_pos hlt (ev_pos (by omega) (ev_neg c ht))
      · rcases hq with hq | ⟨q1, q2, q3⟩
        · exact .inl hq
        · refine .inr ⟨q1, by omega, ?_⟩
          intro s hs2
          rcases List.mem_cons.1 hs2 with rfl | hs2
          · omega
          · exact q3 s hs2
theorem szStringS_ok (l : List ByteArray) (left : Int) (hl : l.length ≤ 9223372036854775807) (hs : ∀ s ∈ l, s.size ≤ 9223372036854775807) (h0 : 0 ≤ left) (h1 : left ≤ 1048576) :
    ∃ t, Ev (fun k => laws_szStringS.f k l left) t ∧ (t < 0 ∨ (0 ≤ t ∧ t ≤ left ∧ l.length ≤ 1048576 ∧ ∀ s ∈ l, s.size ≤ 1048576)) := by
  unfold laws_szStringS.f
  have hw : wrap64 (left - (l.length : Int)) = left - (l.length : Int) := w64 (by omega) (by omega)
  rw [hw]
  by_cases c : left - (l.length : Int) < 0
  · exact ⟨-1, ev_pos c (Ev.now _), .inl (by omega)⟩
  · obtain ⟨t, ht, hq⟩ := szStringS_l l hl hs l [] (left - (l.length : Int)) rfl (by omega) (by omega)
    refine ⟨t, ev_neg c ht, ?_⟩
    rcases hq with hq | ⟨q1, q2, q3⟩
    · exact .inl hq
    · exact .inr ⟨q1, by omega, by omega, q3⟩
theorem szPutS_l (l : List LPut) (hl : l.length ≤ 9223372036854775807) (hs : ∀ p ∈ l, p.f1.size ≤ 9223372036854775807) : ∀ (rest pre : List LPut) (left : Int), l = pre ++ rest → 0 ≤ left → left ≤ 1048576 →
    ∃ t, Ev (fun k => laws_szPutS.l0 k l left (pre.length : Int)) t ∧ (t < 0 ∨ (0 ≤ t ∧ t ≤ left ∧ ∀ p ∈ rest, p.f1.size ≤ 1048576)) := by
  intro rest
  induction rest with
  | nil =>
    intro pre left e h0 h1
    refine ⟨left, ev_step ?_, .inr ⟨h0, Int.le_refl _, by simp⟩⟩
    simp only [laws_szPutS.l0]
    exact ev_neg (by rw [e]; simp) (Ev.now _)
  | cons x rest ih =>
    intro pre left e h0 h1
    have hx : x.f1.size ≤ 9223372036854775807 := hs x (by rw [e]; simp)
    have hg : rd_T80 l (pre.length : Int) = x := by unfold rd_T80; rw [Int.toNat_natCast, e, getD_mid]
    have hlt : (pre.length : Int) < (l.length : Int) := by rw [e]; exact len_mid _ _ _
    have hw : wrap64 (left - (x.f1.size : Int)) = left - (x.f1.size : Int) := w64 (by omega) (by omega)
    by_cases c : left - (x.f1.size : Int) < 0
    · have hp : laws_szPut.f x.f0 x.f1 left = some (-1) := by unfold laws_szPut.f; rw [hw, if_pos c]
      refine ⟨-1, ev_step ?_, .inl (by omega)⟩
      simp only [laws_szPutS.l0]
      rw [hg]
      exact ev_pos hlt (ev_pos (by omega) (ev_cbind hp (ev_pos (by omega) (Ev.now _))))
    · have hp : laws_szPut.f x.f0 x.f1 left = some (left - (x.f1.size : Int)) := by unfold laws_szPut.f; rw [hw, if_neg c]
      obtain ⟨t, ht, hq⟩ := ih (pre ++ [x]) (left - (x.f1.size : Int)) (by simp [e]) (by omega) (by omega)
      refine ⟨t, ev_step ?_, ?_⟩
      · simp only [laws_szPutS.l0]
        rw [hg, next64 _ (by have := hl; omega)]
        rw [List.length_append, List.length_singleton] at ht
        exact ev_pos hlt (ev_pos (by omega) (ev_cbind hp (ev_neg c ht)))
      · rcases hq with hq | ⟨q1, q2, q3⟩
        · exact .inl hq
        · refine .inr ⟨q1, by omega, ?_⟩
          intro s hs2
          rcases List.mem_cons.1 hs2 with rfl | hs2
          · omega
          · exact q3 s hs2
theorem szPutS_ok (l : List LPut) (left : Int) (hl : l.length ≤ 9223372036854775807) (hs : ∀ p ∈ l, p.f1.size ≤ 9223372036854775807) (h0 : 0 ≤ left) (h1 : left ≤ 1048576) :
    ∃ t, Ev (fun k => laws_szPutS.f k l left) t ∧ (t < 0 ∨ (0 ≤ t ∧ t ≤ left ∧ l.length ≤ 1048576 ∧ ∀ p ∈ l, p.f1.size ≤ 1048576)) := by
  unfold laws_szPutS.f
  have hw : wrap64 (left - (l.length : Int)) = left - (l.length : Int) := w64 (by omega) (by omega)
  rw [hw]
  by_cases c : left - (l.length : Int) < 0
  · exact ⟨-1, ev_pos c (Ev.now _), .inl (by omega)⟩
  · obtain ⟨t, ht, hq⟩ := szPutS_l l hl hs l [] (left - (l.length : Int)) rfl (by omega) (by omega)
    refine ⟨t, ev_neg c ht, ?_⟩
    rcases hq with hq | ⟨q1, q2, q3⟩
    · exact .inl hq
    · exact .inr ⟨q1, by omega, by omega, q3⟩
theorem szDisk_ok (S : List ByteArray) (C : List LPut) (left : Int) (hS : S.length ≤ 9223372036854775807) (hs : ∀ s ∈ S, s.size ≤ 9223372036854775807) (hC : C.length ≤ 9223372036854775807) (hp : ∀ p ∈ C, p.f1.size ≤ 9223372036854775807) (h0 : 0 ≤ left) (h1 : left ≤ 1048576) :
    ∃ t, Ev (fun k => laws_szDisk.f k S C left) t ∧ (t < 0 ∨ (0 ≤ t ∧ t ≤ left ∧ S.length ≤ 1048576 ∧ (∀ s ∈ S, s.size ≤ 1048576) ∧ C.length ≤ 1048576 ∧ ∀ p ∈ C, p.f1.size ≤ 1048576)) := by
  unfold laws_szDisk.f
  obtain ⟨t, ht, hq⟩ := szStringS_ok S left hS hs h0 h1
  rcases hq with hq | ⟨q1, q2, q3, q4⟩
  · exact ⟨-1, ev_bind ht (ev_pos hq (Ev.now _)), .inl (by omega)⟩
  · obtain ⟨u, hu, hr⟩ := szPutS_ok C t hC hp q1 (by omega)
    rcases hr with hr | ⟨r1, r2, r3, r4⟩
    · exact ⟨-1, ev_bind ht (ev_neg (by omega) (ev_bind hu (ev_pos hr (Ev.now _)))), .inl (by omega)⟩
    · exact ⟨u, ev_bind ht (ev_neg (by omega) (ev_bind hu (ev_neg (by omega) (Ev.now _)))), .inr ⟨r1, by omega, q3, q4, r3, r4⟩⟩
/-! copies -/
theorem toStringS_l (l : List ByteArray) (hl : l.length ≤ 1048576) : ∀ (rest pre : List ByteArray), l = pre ++ rest → Ev (fun k => laws_toStringS.l0 k l (pre ++ List.replicate rest.length (⟨#[]⟩ : ByteArray)) (pre.length : Int)) l := by
  intro rest
  induction rest with
  | nil =>
    intro pre e
    refine ev_step ?_
    simp only [laws_toStringS.l0]
    exact ev_neg (by rw [e]; simp) (ev_now (by rw [e]; simp))
  | cons x rest ih =>
    intro pre e
    refine ev_step ?_
    simp only [laws_toStringS.l0]
    have hg : rdOf ByteArray.empty l (pre.length : Int) = x := by unfold rdOf; rw [Int.toNat_natCast, e, getD_mid]
    have hlt : (pre.length : Int) < (l.length : Int) := by rw [e]; exact len_mid _ _ _
    have h := ih (pre ++ [x]) (by simp [e])
    rw [List.length_append, List.length_singleton] at h
    rw [hg, next64 _ (by omega), Int.toNat_natCast, List.length_cons, List.replicate_succ, set_mid]
    refine ev_pos hlt (ev_pos (by omega) (ev_pos (by simp; omega) ?_))
    rw [List.append_assoc] at h
    exact h
theorem toStringS_ok (l : List ByteArray) (hl : l.length ≤ 1048576) : Ev (fun k => laws_toStringS.f k l) l := by
  unfold laws_toStringS.f
  rw [Int.toNat_natCast]
  exact ev_pos (by omega) (ev_pos (by omega) (toStringS_l l hl l [] rfl))
def toIPut (x : LPut) : IPut := ⟨x.f0, x.f1⟩
theorem toPutS_l (l : List LPut) (hl : l.length ≤ 1048576) : ∀ (rest pre : List LPut), l = pre ++ rest → Ev (fun k => laws_toPutS.l0 k l (pre.map toIPut ++ List.replicate rest.length z64) (pre.length : Int)) (l.map toIPut) := by
  intro rest
  induction rest with
  | nil =>
    intro pre e
    refine ev_step ?_
    simp only [laws_toPutS.l0]
    exact ev_neg (by rw [e]; simp) (ev_now (by rw [e]; simp))
  | cons x rest ih =>
    intro pre e
    refine ev_step ?_
    simp only [laws_toPutS.l0]
    have hg : rd_T80 l (pre.length : Int) = x := by unfold rd_T80; rw [Int.toNat_natCast, e, getD_mid]
    have hlt : (pre.length : Int) < (l.length : Int) := by rw [e]; exact len_mid _ _ _
    have h := ih (pre ++ [x]) (by simp [e])
    rw [List.length_append, List.length_singleton] at h
    have hm : (pre.map toIPut).length = pre.length := by simp
    rw [hg, next64 _ (by omega), Int.toNat_natCast, List.length_cons, List.replicate_succ]
    refine ev_pos hlt (ev_pos (by omega) (ev_cbind rfl (ev_pos (by simp; omega) ?_)))
    rw [← hm, set_mid, hm]
    rw [List.map_append, List.append_assoc] at h
    exact h
theorem toPutS_ok (l : List LPut) (hl : l.length ≤ 1048576) : Ev (fun k => laws_toPutS.f k l) (l.map toIPut) := by
  unfold laws_toPutS.f
  rw [Int.toNat_natCast]
  exact ev_pos (by omega) (ev_pos (by omega) (toPutS_l l hl l [] rfl))
theorem toDisk_ok (S : List ByteArray) (C : List LPut) (hS : S.length ≤ 1048576) (hC : C.length ≤ 1048576) : Ev (fun k => laws_toDisk.f k S C) (S, C.map toIPut) := by
  unfold laws_toDisk.f
  exact ev_bind (toStringS_ok S hS) (ev_bind (toPutS_ok C hC) (Ev.now _))
/-! a list is as itself -/
theorem eqStringS_l (l : List ByteArray) (hl : l.length ≤ 9223372036854775800) : ∀ (rest pre : List ByteArray), l = pre ++ rest → Ev (fun k => laws_eqStringS.l0 k l l (pre.length : Int)) true := by
  intro rest
  induction rest with
  | nil =>
    intro pre e
    refine ev_step ?_
    simp only [laws_eqStringS.l0]
    exact ev_neg (by rw [e]; simp) (Ev.now _)
  | cons x rest ih =>
    intro pre e
    refine ev_step ?_
    simp only [laws_eqStringS.l0]
    have hlt : (pre.length : Int) < (l.length : Int) := by rw [e]; exact len_mid _ _ _
    have h := ih (pre ++ [x]) (by simp [e])
    rw [List.length_append, List.length_singleton] at h
    rw [next64 _ (by omega)]
    exact ev_pos hlt (ev_pos (by omega) (ev_pos hlt (ev_pos (by first | rfl | trivial) h)))
theorem eqStringS_same (l : List ByteArray) (hl : l.length ≤ 9223372036854775800) : Ev (fun k => laws_eqStringS.f k l l) true := by
  unfold laws_eqStringS.f
  exact ev_pos rfl (eqStringS_l l hl l [] rfl)
theorem eqPut_same (x : IPut) : laws_eqPut.f x.f0 x.f1 x.f0 x.f1 = some true := by unfold laws_eqPut.f; rw [if_pos rfl, if_pos rfl]
theorem eqPutS_l (l : List IPut) (hl : l.length ≤ 9223372036854775800) : ∀ (rest pre : List IPut), l = pre ++ rest → Ev (fun k => laws_eqPutS.l0 k l l (pre.length : Int)) true := by
  intro rest
  induction rest with
  | nil =>
    intro pre e
    refine ev_step ?_
    simp only [laws_eqPutS.l0]
    exact ev_neg (by rw [e]; simp) (Ev.now _)
  | cons x rest ih =>
    intro pre e
    refine ev_step ?_
    simp only [laws_eqPutS.l0]
    have hlt : (pre.length : Int) < (l.length : Int) := by rw [e]; exact len_mid _ _ _
    have h := ih (pre ++ [x]) (by simp [e])
    rw [List.length_append, List.length_singleton] at h
    rw [next64 _ (by omega)]
    exact ev_pos hlt (ev_pos (by omega) (ev_pos hlt (ev_cbind (eqPut_same _) (ev_pos rfl h))))
theorem eqPutS_same (l : List IPut) (hl : l.length ≤ 9223372036854775800) : Ev (fun k => laws_eqPutS.f k l l) true := by
  unfold laws_eqPutS.f
  exact ev_pos rfl (eqPutS_l l hl l [] rfl)
theorem eqDisk_same (S : List ByteArray) (C : List IPut) (hS : S.length ≤ 9223372036854775800) (hC : C.length ≤ 9223372036854775800) : Ev (fun k => laws_eqDisk.f k S C S C) true := by
  unfold laws_eqDisk.f
  exact ev_bind (eqStringS_same S hS) (ev_pos rfl (ev_bind (eqPutS_same C hC) (ev_pos rfl (Ev.now _))))

/-! marks -/
theorem markText_l : ∀ (n : Nat) (acc : ByteArray), acc.size + n ≤ 4611686018427387904 → ∃ r, Ev (fun k => laws_markText.l0 k (n : Int) acc) r := by
  intro n
  induction n using Nat.strongRecOn with
  | _ n ih =>
    intro acc hb
    by_cases h : n = 0
    · subst h
      refine ⟨(⟨#[109]⟩ : ByteArray) ++ acc, ev_step ?_⟩
      simp only [laws_markText.l0]
      exact ev_neg (by omega) (ev_pos (by omega) (Ev.now _))
    · have e1 : wrap64 (Int.tdiv (n : Int) 10) = ((n / 10 : Nat) : Int) := by
        rw [show Int.tdiv (n : Int) 10 = ((n / 10 : Nat) : Int) from rfl, w64 (by omega) (by omega)]
      obtain ⟨r, hr⟩ := ih (n / 10) (by omega) (strOfNums [(wrap64 (48 + (Int.tmod (n : Int) 10))) % 256] ++ acc) (by rw [ByteArray.size_append, strOfNums_size]; simp; omega)
      refine ⟨r, ev_step ?_⟩
      simp only [laws_markText.l0]
      rw [e1]
      exact ev_pos (by omega) (ev_cbind rfl (ev_pos (by rw [strOfNums_size]; simp; omega) hr))
theorem markText_ok (n : Int) (h : n ≤ 4611686018427387904) : ∃ r, Ev (fun k => laws_markText.f k n) r := by
  unfold laws_markText.f
  by_cases c : n ≤ 0
  · exact ⟨_, ev_pos c (Ev.now _)⟩
  · obtain ⟨r, hr⟩ := markText_l n.toNat (⟨#[]⟩ : ByteArray) (by show 0 + n.toNat ≤ _; omega)
    rw [Int.toNat_of_nonneg (by omega)] at hr
    exact ⟨r, ev_neg c hr⟩
open Classical in
noncomputable def markT (n : Int) : ByteArray := if h : ∃ r, Ev (fun k => laws_markText.f k n) r then Classical.choose h else ByteArray.empty
theorem markT_ev (n : Int) (h : n ≤ 4611686018427387904) : Ev (fun k => laws_markText.f k n) (markT n) := by
  unfold markT
  rw [dif_pos (markText_ok n h)]
  exact Classical.choose_spec (markText_ok n h)
noncomputable def markL (a : Int) : Nat → List ByteArray
  | 0 => []
  | n + 1 => markT a :: markL (a + 1) n
theorem markL_length (a : Int) (n : Nat) : (markL a n).length = n := by
  induction n generalizing a with
  | zero => rfl
  | succ n ih => simp [markL, ih]
theorem markStringS_l : ∀ (rest pre : List ByteArray) (a : Int), 0 ≤ a → pre.length + rest.length ≤ 1099511627776 → a + rest.length ≤ 4611686018427387900 →
    Ev (fun k => laws_markStringS.l0 k (pre ++ rest) a (pre.length : Int)) (a + rest.length, pre ++ markL a rest.length) := by
  intro rest
  induction rest with
  | nil =>
    intro pre a h0 h1 h2
    refine ev_step ?_
    simp only [laws_markStringS.l0]
    exact ev_neg (by simp) (ev_now (by simp [markL]))
  | cons x rest ih =>
    intro pre a h0 h1 h2
    rw [List.length_cons] at h1 h2
    have h := ih (pre ++ [markT a]) (a + 1) (by omega) (by simp; omega) (by omega)
    rw [List.length_append, List.length_singleton] at h
    refine ev_step ?_
    simp only [laws_markStringS.l0]
    rw [next64 _ (by omega), Int.toNat_natCast, w64 (x := a + 1) (by omega) (by omega)]
    refine ev_pos (len_mid _ _ _) (ev_bind (markT_ev a (by omega)) (ev_pos (by omega) ?_))
    rw [set_mid]
    rw [List.append_assoc, List.append_assoc] at h
    refine ev_eq h ?_
    rw [List.length_cons]
    simp only [markL]
    refine Prod.ext (by simp; omega) rfl
theorem heldStringS_l : ∀ (n : Nat) (pre : List ByteArray) (a : Int), 0 ≤ a → pre.length + n ≤ 1099511627776 → a + n ≤ 4611686018427387900 →
    Ev (fun k => laws_heldStringS.l0 k (pre ++ markL a n) a (pre.length : Int)) (a + n) := by
  intro n
  induction n with
  | zero =>
    intro pre a h0 h1 h2
    refine ev_step ?_
    simp only [laws_heldStringS.l0]
    exact ev_neg (by simp [markL]) (ev_now (by simp))
  | succ n ih =>
    intro pre a h0 h1 h2
    have h := ih (pre ++ [markT a]) (a + 1) (by omega) (by simp; omega) (by omega)
    rw [List.length_append, List.length_singleton, List.append_assoc] at h
    refine ev_step ?_
    simp only [laws_heldStringS.l0]
    have hg : rdOf ByteArray.empty (pre ++ markL a (n + 1)) (pre.length : Int) = markT a := by unfold rdOf; simp only [markL]; rw [Int.toNat_natCast, getD_mid]
    rw [next64 _ (by omega), w64 (x := a + 1) (by omega) (by omega), hg]
    refine ev_pos (by simp only [markL]; exact len_mid _ _ _) (ev_pos (by omega) (ev_bind (markT_ev a (by omega)) (ev_pos rfl (ev_eq h (by omega)))))
noncomputable def markPL (a : Int) : Nat → List IPut
  | 0 => []
  | n + 1 => (⟨a, markT (a + 1)⟩ : IPut) :: markPL (a + 2) n
theorem markPutS_l : ∀ (rest pre : List IPut) (a : Int), 0 ≤ a → pre.length + rest.length ≤ 1099511627776 → a + 2 * rest.length ≤ 4611686018427387900 →
    Ev (fun k => laws_markPutS.l0 k (pre ++ rest) a (pre.length : Int)) (a + 2 * rest.length, pre ++ markPL a rest.length) := by
  intro rest
  induction rest with
  | nil =>
    intro pre a h0 h1 h2
    refine ev_step ?_
    simp only [laws_markPutS.l0]
    exact ev_neg (by simp) (ev_now (by simp [markPL]))
  | cons x rest ih =>
    intro pre a h0 h1 h2
    rw [List.length_cons] at h1 h2
    have h := ih (pre ++ [(⟨a, markT (a + 1)⟩ : IPut)]) (a + 2) (by omega) (by simp; omega) (by omega)
    rw [List.length_append, List.length_singleton] at h
    refine ev_step ?_
    simp only [laws_markPutS.l0]
    rw [next64 _ (by omega), Int.toNat_natCast, w64 (x := a + 1) (by omega) (by omega), w64 (x := a + 1 + 1) (by omega) (by omega)]
    refine ev_pos (len_mid _ _ _) (ev_pos (by omega) (ev_cbind (by rw [set_mid]) ?_))
    refine ev_bind (markT_ev (a + 1) (by omega)) ?_
    have hg : ∀ y : IPut, rd_T64 (pre ++ y :: rest) (pre.length : Int) = y := by intro y; unfold rd_T64; rw [Int.toNat_natCast, getD_mid]
    simp only [hg]
    rw [set_mid]
    rw [List.append_assoc, List.append_assoc] at h
    rw [show a + 1 + 1 = a + 2 from by omega]
    refine ev_eq h ?_
    rw [List.length_cons]
    simp only [markPL]
    refine Prod.ext (by simp; omega) rfl
theorem heldPutS_l : ∀ (n : Nat) (pre : List IPut) (a : Int), 0 ≤ a → pre.length + n ≤ 1099511627776 → a + 2 * n ≤ 4611686018427387900 →
    Ev (fun k => laws_heldPutS.l0 k (pre ++ markPL a n) a (pre.length : Int)) (a + 2 * n) := by
  intro n
  induction n with
  | zero =>
    intro pre a h0 h1 h2
    refine ev_step ?_
    simp only [laws_heldPutS.l0]
    exact ev_neg (by simp [markPL]) (ev_now (by simp))
  | succ n ih =>
    intro pre a h0 h1 h2
    have h := ih (pre ++ [(⟨a, markT (a + 1)⟩ : IPut)]) (a + 2) (by omega) (by simp; omega) (by omega)
    rw [List.length_append, List.length_singleton, List.append_assoc] at h
    refine ev_step ?_
    simp only [laws_heldPutS.l0]
    have hg : rd_T64 (pre ++ markPL a (n + 1)) (pre.length : Int) = (⟨a, markT (a + 1)⟩ : IPut) := by unfold rd_T64; simp only [markPL]; rw [Int.toNat_natCast, getD_mid]
    rw [next64 _ (by omega), w64 (x := a + 1) (by omega) (by omega), w64 (x := a + 1 + 1) (by omega) (by omega), hg, show a + 1 + 1 = a + 2 from by omega]
    refine ev_pos (by simp only [markPL]; exact len_mid _ _ _) (ev_pos (by omega) (ev_pos rfl (ev_bind (markT_ev (a + 1) (by omega)) (ev_pos rfl (ev_eq h (by omega))))))
/-- A disk is marked, and holds its marks. -/
theorem disk_marked (S : List ByteArray) (C : List IPut) (hS : S.length ≤ 1099511627776) (hC : C.length ≤ 1099511627776) :
    ∃ m S' C', Ev (fun k => laws_markDisk.f k S C 1) (m, S', C') ∧ 0 ≤ m ∧ m ≤ 4398046511105 ∧ Ev (fun k => laws_heldDisk.f k S' C' 1) m := by
  refine ⟨1 + S.length + 2 * C.length, markL 1 S.length, markPL (1 + S.length) C.length, ?_, by omega, by omega, ?_⟩
  · unfold laws_markDisk.f laws_markStringS.f laws_markPutS.f
    exact ev_bind (markStringS_l S [] 1 (by omega) (by simp; omega) (by omega)) (ev_bind (markPutS_l C [] (1 + S.length) (by omega) (by simp; omega) (by omega)) (Ev.now _))
  · unfold laws_heldDisk.f laws_heldStringS.f laws_heldPutS.f
    exact ev_bind (heldStringS_l S.length [] 1 (by omega) (by simp; omega) (by omega)) (ev_neg (by omega) (ev_bind (heldPutS_l C.length [] (1 + S.length) (by omega) (by simp; omega) (by omega)) (ev_neg (by omega) (Ev.now _))))

theorem within_val (a b c : Int) : impl_within.f a b c = some (decide (b ≤ a ∧ a ≤ c)) := by
  unfold impl_within.f
  by_cases h : a ≥ b
  · rw [if_pos h]; congr 1; simp; intro; exact h
  · rw [if_neg h]; congr 1; simp; intro h2; omega
theorem in_val (a b c : Int) : spec_l01In.f a b c = some (decide (b ≤ a ∧ a ≤ c)) := by
  unfold spec_l01In.f
  by_cases h : a ≥ b
  · rw [if_pos h]; congr 1; simp; intro; exact h
  · rw [if_neg h]; congr 1; simp; intro h2; omega

/-! a disk is right -/
def goodP (n : Nat) (p : IPut) : Bool := decide ((0 ≤ p.f0 ∧ p.f0 ≤ (n : Int) - 1) ∧ (p.f1.size : Int) = 64)
def goodS (s : ByteArray) : Bool := decide ((s.size : Int) = 64)
def lensOk (S : List ByteArray) (C : List IPut) : Bool := decide ((1 : Int) ≤ S.length ∧ (S.length : Int) ≤ 100) && decide ((C.length : Int) ≤ 60)
def diskOkM (S : List ByteArray) (C : List IPut) : Bool := S.all goodS && (C.all (goodP S.length) && lensOk S C)
theorem diskOk_iff (S : List ByteArray) (C : List IPut) : diskOkM S C = true ↔ (1 ≤ S.length ∧ S.length ≤ 100 ∧ C.length ≤ 60 ∧ (∀ s ∈ S, s.size = 64) ∧ ∀ p ∈ C, 0 ≤ p.f0 ∧ p.f0 < (S.length : Int) ∧ p.f1.size = 64) := by
  unfold diskOkM lensOk
  simp only [Bool.and_eq_true, List.all_eq_true, goodS, goodP, decide_eq_true_eq]
  constructor
  · rintro ⟨h1, h2, ⟨h3, h4⟩, h5⟩
    refine ⟨by omega, by omega, by omega, fun s hs => by have := h1 s hs; omega, fun p hp => ?_⟩
    have := h2 p hp
    omega
  · rintro ⟨h1, h2, h3, h4, h5⟩
    refine ⟨fun s hs => by have := h4 s hs; omega, fun p hp => ?_, ⟨by omega, by omega⟩, by omega⟩
    have := h5 p hp
    omega
theorem impl_ok1 (S : List ByteArray) (C : List IPut) (hS : S.length ≤ 1099511627776) (hC : C.length ≤ 1099511627776) : ∀ (rest pre : List IPut), C = pre ++ rest →
    Ev (fun k => impl_DiskOk.l1 k C (C.length : Int) (pre.length : Int) S C) (rest.all (goodP S.length) && lensOk S C) := by
  intro rest
  induction rest with
  | nil =>
    intro pre e
    refine ev_step ?_
    simp only [impl_DiskOk.l1]
    refine ev_neg (by rw [e]; simp) (ev_cbind (within_val _ _ _) ?_)
    unfold lensOk
    by_cases h : (1 : Int) ≤ S.length ∧ (S.length : Int) ≤ 100
    · rw [decide_eq_true h]; exact ev_pos rfl (ev_now (by simp))
    · rw [decide_eq_false h]; exact ev_neg (by simp) (ev_now (by simp))
  | cons p rest ih =>
    intro pre e
    have hg : rd_T64 C (pre.length : Int) = p := by unfold rd_T64; rw [Int.toNat_natCast, e, getD_mid]
    have hlt : (pre.length : Int) < (C.length : Int) := by rw [e]; exact len_mid _ _ _
    have h := ih (pre ++ [p]) (by simp [e])
    rw [List.length_append, List.length_singleton] at h
    refine ev_step ?_
    simp only [impl_DiskOk.l1]
    rw [hg, next64 _ (by omega), w64 (x := (S.length : Int) - 1) (by omega) (by omega)]
    refine ev_pos hlt (ev_pos (by omega) (ev_pos hlt (ev_cbind (within_val _ _ _) ?_)))
    rw [List.all_cons]
    unfold goodP
    by_cases h1 : 0 ≤ p.f0 ∧ p.f0 ≤ (S.length : Int) - 1
    · rw [decide_eq_true h1]
      by_cases h2 : (p.f1.size : Int) = 64
      · refine ev_pos rfl (ev_pos h2 (ev_eq h ?_))
        rw [decide_eq_true (⟨h1, h2⟩ : (0 ≤ p.f0 ∧ p.f0 ≤ (S.length : Int) - 1) ∧ (p.f1.size : Int) = 64), Bool.true_and]
        rfl
      · refine ev_pos rfl (ev_neg h2 (ev_now ?_))
        rw [decide_eq_false (fun h => h2 h.2)]; rfl
    · rw [decide_eq_false h1]
      refine ev_neg (by simp) (ev_now ?_)
      rw [decide_eq_false (fun h => h1 h.1)]; rfl
theorem impl_ok0 (S : List ByteArray) (C : List IPut) (hS : S.length ≤ 1099511627776) (hC : C.length ≤ 1099511627776) : ∀ (rest pre : List ByteArray), S = pre ++ rest →
    Ev (fun k => impl_DiskOk.l0 k S (S.length : Int) (pre.length : Int) S C) (rest.all goodS && (C.all (goodP S.length) && lensOk S C)) := by
  intro rest
  induction rest with
  | nil =>
    intro pre e
    refine ev_step ?_
    simp only [impl_DiskOk.l0]
    refine ev_neg (by rw [e]; simp) (ev_eq (impl_ok1 S C hS hC C [] rfl) ?_)
    rw [List.all_nil, Bool.true_and]
  | cons s rest ih =>
    intro pre e
    have hg : rdOf ByteArray.empty S (pre.length : Int) = s := by unfold rdOf; rw [Int.toNat_natCast, e, getD_mid]
    have hlt : (pre.length : Int) < (S.length : Int) := by rw [e]; exact len_mid _ _ _
    have h := ih (pre ++ [s]) (by simp [e])
    rw [List.length_append, List.length_singleton] at h
    refine ev_step ?_
    simp only [impl_DiskOk.l0]
    rw [hg, next64 _ (by omega)]
    refine ev_pos hlt (ev_pos (by omega) (ev_pos hlt ?_))
    rw [List.all_cons]
    unfold goodS
    by_cases h2 : (s.size : Int) = 64
    · refine ev_pos h2 (ev_eq h ?_)
      rw [decide_eq_true h2, Bool.true_and]
      rfl
    · refine ev_neg h2 (ev_now ?_)
      rw [decide_eq_false h2]; rfl
theorem impl_diskOk (S : List ByteArray) (C : List IPut) (hS : S.length ≤ 1099511627776) (hC : C.length ≤ 1099511627776) : Ev (fun k => impl_DiskOk.f k S C) (diskOkM S C) := impl_ok0 S C hS hC S [] rfl
theorem spec_ok1 (S : List ByteArray) (C : List IPut) (hS : S.length ≤ 1099511627776) (hC : C.length ≤ 1099511627776) : ∀ (rest pre : List IPut), C = pre ++ rest →
    Ev (fun k => spec_DiskOk.l1 k (pre.length : Int) S C) (rest.all (goodP S.length)) := by
  intro rest
  induction rest with
  | nil =>
    intro pre e
    refine ev_step ?_
    simp only [spec_DiskOk.l1]
    exact ev_neg (by rw [e]; simp) (Ev.now _)
  | cons p rest ih =>
    intro pre e
    have hg : rd_T64 C (pre.length : Int) = p := by unfold rd_T64; rw [Int.toNat_natCast, e, getD_mid]
    have hlt : (pre.length : Int) < (C.length : Int) := by rw [e]; exact len_mid _ _ _
    have h := ih (pre ++ [p]) (by simp [e])
    rw [List.length_append, List.length_singleton] at h
    refine ev_step ?_
    simp only [spec_DiskOk.l1]
    rw [hg, next64 _ (by omega), w64 (x := (S.length : Int) - 1) (by omega) (by omega)]
    refine ev_pos hlt (ev_pos (by omega) (ev_cbind (in_val _ _ _) ?_))
    rw [List.all_cons]
    unfold goodP
    by_cases h1 : 0 ≤ p.f0 ∧ p.f0 ≤ (S.length : Int) - 1
    · rw [decide_eq_true h1]
      by_cases h2 : (p.f1.size : Int) = 64
      · refine ev_pos rfl (ev_pos h2 (ev_eq h ?_))
        rw [decide_eq_true (⟨h1, h2⟩ : (0 ≤ p.f0 ∧ p.f0 ≤ (S.length : Int) - 1) ∧ (p.f1.size : Int) = 64), Bool.true_and]
        rfl
      · refine ev_pos rfl (ev_neg h2 (ev_now ?_))
        rw [decide_eq_false (fun h => h2 h.2)]; rfl
    · rw [decide_eq_false h1]
      refine ev_neg (by simp) (ev_now ?_)
      rw [decide_eq_false (fun h => h1 h.1)]; rfl
theorem spec_ok0 (S : List ByteArray) (C : List IPut) (hS : S.length ≤ 1099511627776) (hC : C.length ≤ 1099511627776) : ∀ (rest pre : List ByteArray), S = pre ++ rest →
    Ev (fun k => spec_DiskOk.l0 k (pre.length : Int) S C) (rest.all goodS && C.all (goodP S.length)) := by
  intro rest
  induction rest with
  | nil =>
    intro pre e
    refine ev_step ?_
    simp only [spec_DiskOk.l0]
    refine ev_neg (by rw [e]; simp) (ev_eq (spec_ok1 S C hS hC C [] rfl) ?_)
    rw [List.all_nil, Bool.true_and]
  | cons s rest ih =>
    intro pre e
    have hg : rdOf ByteArray.empty S (pre.length : Int) = s := by unfold rdOf; rw [Int.toNat_natCast, e, getD_mid]
    have hlt : (pre.length : Int) < (S.length : Int) := by rw [e]; exact len_mid _ _ _
    have h := ih (pre ++ [s]) (by simp [e])
    rw [List.length_append, List.length_singleton] at h
    refine ev_step ?_
    simp only [spec_DiskOk.l0]
    rw [hg, next64 _ (by omega)]
    refine ev_pos hlt (ev_pos (by omega) ?_)
    rw [List.all_cons]
    unfold goodS
    by_cases h2 : (s.size : Int) = 64
    · refine ev_pos h2 (ev_eq h ?_)
      rw [decide_eq_true h2, Bool.true_and]
      rfl
    · refine ev_neg h2 (ev_now ?_)
      rw [decide_eq_false h2]; rfl
theorem spec_diskOk (S : List ByteArray) (C : List IPut) (hS : S.length ≤ 1099511627776) (hC : C.length ≤ 1099511627776) : Ev (fun k => spec_DiskOk.f k S C) (diskOkM S C) := by
  unfold spec_DiskOk.f diskOkM lensOk
  refine ev_cbind (in_val _ _ _) ?_
  by_cases h1 : (1 : Int) ≤ S.length ∧ (S.length : Int) ≤ 100
  · rw [decide_eq_true h1]
    refine ev_pos rfl (ev_step ?_)
    simp only [spec_DiskOk.j0]
    by_cases h2 : (C.length : Int) > 60
    · rw [decide_eq_true h2]
      refine ev_pos rfl (ev_now ?_)
      rw [decide_eq_false (show ¬ (C.length : Int) ≤ 60 by omega)]; simp
    · rw [decide_eq_false h2]
      refine ev_neg (by simp) (ev_eq (spec_ok0 S C hS hC S [] rfl) ?_)
      rw [decide_eq_true (show (C.length : Int) ≤ 60 by omega)]; simp
  · rw [decide_eq_false h1]
    refine ev_neg (by simp) (ev_step ?_)
    simp only [spec_DiskOk.j0]
    exact ev_pos (by first | rfl | trivial) (ev_now (by simp))

theorem impl_copy (S : List ByteArray) (C : List IPut) (hS : S.length ≤ 1099511627776) (hC : C.length ≤ 1099511627776) : impl_copyDisk.f S C = some (S, C) := by
  unfold impl_copyDisk.f
  rw [if_pos (by simp; omega), if_pos (by simp; omega), List.nil_append, List.nil_append]
theorem spec_copy (S : List ByteArray) (C : List IPut) (hS : S.length ≤ 1099511627776) (hC : C.length ≤ 1099511627776) : spec_l03Copy.f S C = some (S, C) := by
  unfold spec_l03Copy.f
  simp only [Option.bind_some]
  rw [if_pos (by simp; omega), if_pos (by simp; omega), List.nil_append, List.nil_append]

def writeM (S : List ByteArray) (C : List IPut) (i : Int) (s : ByteArray) : List ByteArray × List IPut × Bool :=
  if diskOkM S (C ++ [(⟨i, s⟩ : IPut)]) = true then (S, C ++ [(⟨i, s⟩ : IPut)], true) else (S, C, false)
theorem impl_write (S : List ByteArray) (C : List IPut) (i : Int) (s : ByteArray) (hS : S.length ≤ 1099511627775) (hC : C.length ≤ 1099511627775) : Ev (fun k => impl_WriteSector.f k S C i s) (writeM S C i s) := by
  unfold impl_WriteSector.f writeM
  have a := impl_diskOk S (C ++ [(⟨i, s⟩ : IPut)]) (by omega) (by simp; omega)
  have c := impl_copy S C (by omega) (by omega)
  refine ev_cbind c (ev_pos (by show C.length < _; omega) (ev_cbind rfl (ev_bind a (ev_if (fun h => ?_) (fun h => ?_)))))
  · rw [if_pos h]; exact Ev.now _
  · rw [if_neg h]; exact ev_cbind c (Ev.now _)
theorem diskOk_snoc (S : List ByteArray) (C : List IPut) (i : Int) (s : ByteArray) : diskOkM S (C ++ [(⟨i, s⟩ : IPut)]) = true ↔ (diskOkM S C = true ∧ (0 ≤ i ∧ i ≤ (S.length : Int) - 1) ∧ (s.size : Int) = 64 ∧ ¬ (C.length : Int) ≥ 60) := by
  rw [diskOk_iff, diskOk_iff]
  constructor
  · rintro ⟨h1, h2, h3, h4, h5⟩
    rw [List.length_append, List.length_singleton] at h3
    have h6 : 0 ≤ i ∧ i < (S.length : Int) ∧ s.size = 64 := h5 ⟨i, s⟩ (by simp)
    exact ⟨⟨h1, h2, by omega, h4, fun p hp => h5 p (by simp [hp])⟩, ⟨by omega, by omega⟩, by omega, by omega⟩
  · rintro ⟨⟨h1, h2, h3, h4, h5⟩, h6, h7, h8⟩
    refine ⟨h1, h2, by rw [List.length_append, List.length_singleton]; omega, h4, fun p hp => ?_⟩
    rcases List.mem_append.1 hp with hp | hp
    · exact h5 p hp
    · rw [List.mem_singleton] at hp
      subst hp
      exact ⟨h6.1, by show i < _; omega, by show s.size = 64; omega⟩
theorem spec_write (S : List ByteArray) (C : List IPut) (i : Int) (s : ByteArray) (hS : S.length ≤ 1099511627775) (hC : C.length ≤ 1099511627775) : Ev (fun k => spec_WriteSector.f k S C i s) (writeM S C i s) := by
  unfold spec_WriteSector.f writeM
  have a := spec_diskOk S C (by omega) (by omega)
  have c := spec_copy S C (by omega) (by omega)
  have e := diskOk_snoc S C i s
  rw [w64 (x := (S.length : Int) - 1) (by omega) (by omega)]
  refine ev_cbind c (ev_bind a (ev_if (fun h1 => ev_cbind (in_val _ _ _) (ev_if (fun h2 => ?_) (fun h2 => ?_))) (fun h1 => ?_)))
  · rw [decide_eq_true_eq] at h2
    refine ev_if (fun h3 => ev_if (fun h4 => ?_) (fun h4 => ?_)) (fun h3 => ?_)
    · rw [if_neg (fun h => (e.1 h).2.2.2 h4)]; exact Ev.now _
    · rw [if_pos (e.2 ⟨h1, h2, h3, h4⟩)]
      exact ev_pos (by show C.length < _; omega) (Ev.now _)
    · rw [if_neg (fun h => h3 (e.1 h).2.2.1)]; exact Ev.now _
  · rw [if_neg (fun h => h2 (decide_eq_true (e.1 h).2.1))]; exact Ev.now _
  · rw [if_neg (fun h => h1 (e.1 h).1)]; exact Ev.now _

theorem FnExactWriteSector (l0_0 : List ByteArray) (l0_1 : List LPut) (a1 : Int) (a2 : ByteArray) : l0_0.length ≤ 9223372036854775807 → (∀ x ∈ l0_0, x.size ≤ 9223372036854775807) → l0_1.length ≤ 9223372036854775807 → (∀ x ∈ l0_1, (Lit.int .i64 x.f0).wf = true ∧ x.f1.size ≤ 9223372036854775807) → (Lit.int .i64 a1).wf = true → a2.size ≤ 9223372036854775807 → ∃ k, laws_FnExactWriteSector.f k l0_0 l0_1 a1 a2 = some true := by
  intro hS hs hC hp ha hb
  refine ev_at ?_
  unfold laws_FnExactWriteSector.f
  refine ev_if (fun _ => Ev.now _) (fun hb2 => ?_)
  obtain ⟨t, ht, hq⟩ := szDisk_ok l0_0 l0_1 1048576 hS hs hC (fun p hm => (hp p hm).2) (by omega) (by omega)
  refine ev_bind ht ?_
  rcases hq with hq | ⟨q1, q2, q3, q4, q5, q6⟩
  · exact ev_pos hq (Ev.now _)
  · have hd := toDisk_ok l0_0 l0_1 q3 q5
    have hm : (l0_1.map toIPut).length = l0_1.length := by simp
    have hz : ∀ p ∈ l0_1.map toIPut, p.f1.size ≤ 1048576 := by
      intro p hp2
      obtain ⟨x, hx, rfl⟩ := List.mem_map.1 hp2
      exact q6 x hx
    generalize l0_1.map toIPut = C at hd hm hz
    have a3 := eqDisk_same l0_0 C (by omega) (by omega)
    have b1 := spec_write l0_0 C a1 a2 (by omega) (by omega)
    have b2 := impl_write l0_0 C a1 a2 (by omega) (by omega)
    obtain ⟨r1, r2, r3, er, hr1, hr2⟩ : ∃ r1 r2 r3, writeM l0_0 C a1 a2 = (r1, r2, r3) ∧ r1.length ≤ 1048577 ∧ r2.length ≤ 1048577 := by
      unfold writeM
      split
      · exact ⟨_, _, _, rfl, by omega, by rw [List.length_append, List.length_singleton]; omega⟩
      · exact ⟨_, _, _, rfl, by omega, by omega⟩
    rw [er] at b1 b2
    have c3 := eqDisk_same r1 r2 (by omega) (by omega)
    obtain ⟨m1, S1, C1, e1, p1, _, _⟩ := disk_marked l0_0 C (by omega) (by omega)
    obtain ⟨m2, S2, C2, e2, p2, _, f2⟩ := disk_marked r1 r2 (by omega) (by omega)
    refine ev_neg (by omega) (ev_bind hd (ev_bind b1 (ev_bind hd (ev_bind b2 (ev_bind c3 (ev_pos rfl (ev_step ?_)))))))
    simp only [laws_FnExactWriteSector.j0]
    refine ev_neg (by simp) (ev_bind hd (ev_bind a3 (ev_pos rfl (ev_bind e1 (ev_neg (by show ¬ m1 < 0; omega) (ev_bind c3 (ev_pos rfl (ev_step ?_))))))))
    simp only [laws_FnExactWriteSector.j1]
    refine ev_neg (by simp) (ev_bind e2 (ev_bind f2 (ev_neg (by omega) (ev_pos rfl (ev_bind hd (ev_bind b2 (ev_bind c3 (ev_pos rfl (ev_step ?_)))))))))
    simp only [laws_FnExactWriteSector.j2]
    exact ev_neg (by simp) (ev_bind f2 (ev_neg (by omega) (ev_pos rfl (Ev.now _))))

end Go.Proofs.Ytfgjhfoljeaiiaa.Pure
