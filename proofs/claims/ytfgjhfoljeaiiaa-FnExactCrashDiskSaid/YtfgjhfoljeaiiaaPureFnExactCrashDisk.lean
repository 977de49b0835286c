/- The law FnExactCrashDisk answers true at every disk, every row of choices and every tear. Conditions: lengths and sizes as the row gives them. -/
import Derived.Test.YtfgjhfoljeaiiaaQFnExactCrashDiskx10
import Derived.Test.YtfgjhfoljeaiiaaAid
namespace Go.Proofs.Ytfgjhfoljeaiiaa.Pure
open Go.RowKit Go.Proofs.Ytfgjhfoljeaiiaa.QFnExactCrashDisk Go.Proofs.YtfgjhfoljeaiiaaW.PrintWords Go.Proofs.YtfgjhfoljeaiiaaW.PrintLast Go.Proofs.Ytfgjhfoljeaiiaa.Aid

abbrev IPut := S64
abbrev LPut := S80
/-! what the laws' own helpers tell: sizes -/
theorem szStringS_l (l : List ByteArray) (hl : l.length ≤ 9223372036854775807) (hs : ∀ s ∈ l, s.size ≤ 9223372036854775807) : ∀ (rest pre : List ByteArray) (left : Int), l = pre ++ rest → 0 ≤ left → left ≤ 1048576 →
    ∃ t, Ev (fun k => laws_szStringS.l0 k l left (pre.length : Int)) t ∧ (t < 0 ∨ (0 ≤ t ∧ t ≤ left ∧ ∀ s ∈ rest, s.size ≤ 1048576)) := by
  intro rest
  induction rest with
  | nil =>
    intro pre left e h0 h1
    refine ⟨left, ev_step ?_, .inr ⟨h0, Int.le_refl _, by simp⟩⟩
    simp only [laws_szStringS.l0]
    exact ev_neg (by rw [e]; simp) (Ev.now _)
  | cons x rest ih =>
    intro pre left e h0 h1
    have hx : x.size ≤ 9223372036854775807 := hs x (by rw [e]; simp)
    have hg : rdOf ByteArray.empty l (pre.length : Int) = x := by unfold rdOf; rw [Int.toNat_natCast, e, getD_mid]
    have hlt : (pre.length : Int) < (l.length : Int) := by rw [e]; exact len_mid _ _ _
    have hw : wrap64 (left - (x.size : Int)) = left - (x.size : Int) := w64 (by omega) (by omega)
    by_cases c : left - (x.size : Int) < 0
    · refine ⟨-1, ev_step ?_, .inl (by omega)⟩
      simp only [laws_szStringS.l0]
      rw [hg, hw]
      exact ev_pos hlt (ev_pos (by omega) (ev_pos c (Ev.now _)))
    · obtain ⟨t, ht, hq⟩ := ih (pre ++ [x]) (left - (x.size : Int)) (by simp [e]) (by omega) (by omega)
      refine ⟨t, ev_step ?_, ?_⟩
      · simp only [laws_szStringS.l0]
        rw [hg, hw, next64 _ (by have := hl; omega)]
        rw [List.length_append, List.length_singleton] at ht
        exact ev_pos hlt (ev_pos (by omega) (ev_neg c ht))
      · rcases hq with hq | ⟨q1, q2, q3⟩
        · exact .inl hq
        · refine .inr ⟨q1, by omega, ?_⟩
          intro s hs2
          rcases List.mem_cons.1 hs2 with rfl | hs2
          · omega
          · exact q3 s hs2
theorem szStringS_ok (l : List ByteArray) (left : Int) (hl : l.length ≤ 9223372036854775807) (hs : ∀ s ∈ l, s.size ≤ 9223372036854775807) (h0 : 0 ≤ left) (h1 : left ≤ 1048576) :
    ∃ t, Ev (fun k => laws_szStringS.f k l left) t ∧ (t < 0 ∨ (0 ≤ t ∧ t ≤ left ∧ l.length ≤ 1048576 ∧ ∀ s ∈ l, s.size ≤ 1048576)) := by
  unfold laws_szStringS.f
  have hw : wrap64 (left - (l.length : Int)) = left - (l.length : Int) := w64 (by omega) (by omega)
  rw [hw]
  by_cases c : left - (l.length : Int) < 0
  · exact ⟨-1, ev_pos c (Ev.now _), .inl (by omega)⟩
  · obtain ⟨t, ht, hq⟩ := szStringS_l l hl hs l [] (left - (l.length : Int)) rfl (by omega) (by omega)
    refine ⟨t, ev_neg c ht, ?_⟩
    rcases hq with hq | ⟨q1, q2, q3⟩
    · exact .inl hq
    · exact .inr ⟨q1, by omega, by omega, q3⟩
theorem szPutS_l (l : List LPut) (hl : l.length ≤ 9223372036854775807) (hs : ∀ p ∈ l, p.f1.size ≤ 9223372036854775807) : ∀ (rest pre : List LPut) (left : Int), l = pre ++ rest → 0 ≤ left → left ≤ 1048576 →
    ∃ t, Ev (fun k => laws_szPutS.l0 k l left (pre.length : Int)) t ∧ (t < 0 ∨ (0 ≤ t ∧ t ≤ left ∧ ∀ p ∈ rest, p.f1.size ≤ 1048576)) := by
  intro rest
  induction rest with
  | nil =>
    intro pre left e h0 h1
    refine ⟨left, ev_step ?_, .inr ⟨h0, Int.le_refl _, by simp⟩⟩
    simp only [laws_szPutS.l0]
    exact ev_neg (by rw [e]; simp) (Ev.now _)
  | cons x rest ih =>
    intro pre left e h0 h1
    have hx : x.f1.size ≤ 9223372036854775807 := hs x (by rw [e]; simp)
    have hg : rd_T80 l (pre.length : Int) = x := by unfold rd_T80; rw [Int.toNat_natCast, e, getD_mid]
    have hlt : (pre.length : Int) < (l.length : Int) := by rw [e]; exact len_mid _ _ _
    have hw : wrap64 (left - (x.f1.size : Int)) = left - (x.f1.size : Int) := w64 (by omega) (by omega)
    by_cases c : left - (x.f1.size : Int) < 0
    · have hp : laws_szPut.f x.f0 x.f1 left = some (-1) := by unfold laws_szPut.f; rw [hw, if_pos c]
      refine ⟨-1, ev_step ?_, .inl (by omega)⟩
      simp only [laws_szPutS.l0]
      rw [hg]
      exact ev_pos hlt (ev_pos (by omega) (ev_cbind hp (ev_pos (by omega) (Ev.now _))))
    · have hp : laws_szPut.f x.f0 x.f1 left = some (left - (x.f1.size : Int)) := by unfold laws_szPut.f; rw [hw, if_neg c]
      obtain ⟨t, ht, hq⟩ := ih (pre ++ [x]) (left - (x.f1.size : Int)) (by simp [e]) (by omega) (by omega)
      refine ⟨t, ev_step ?_, ?_⟩
      · simp only [laws_szPutS.l0]
        rw [hg, next64 _ (by have := hl; omega)]
        rw [List.length_append, List.length_singleton] at ht
        exact ev_pos hlt (ev_pos (by omega) (ev_cbind hp (ev_neg c ht)))
      · rcases hq with hq | ⟨q1, q2, q3⟩
        · exact .inl hq
        · refine .inr ⟨q1, by omega, ?_⟩
          intro s hs2
          rcases List.mem_cons.1 hs2 with rfl | hs2
          · omega
          · exact q3 s hs2
theorem szPutS_ok (l : List LPut) (left : Int) (hl : l.length ≤ 9223372036854775807) (hs : ∀ p ∈ l, p.f1.size ≤ 9223372036854775807) (h0 : 0 ≤ left) (h1 : left ≤ 1048576) :
    ∃ t, Ev (fun k => laws_szPutS.f k l left) t ∧ (t < 0 ∨ (0 ≤ t ∧ t ≤ left ∧ l.length ≤ 1048576 ∧ ∀ p ∈ l, p.f1.size ≤ 1048576)) := by
  unfold laws_szPutS.f
  have hw : wrap64 (left - (l.length : Int)) = left - (l.length : Int) := w64 (by omega) (by omega)
  rw [hw]
  by_cases c : left - (l.length : Int) < 0
  · exact ⟨-1, ev_pos c (Ev.now _), .inl (by omega)⟩
  · obtain ⟨t, ht, hq⟩ := szPutS_l l hl hs l [] (left - (l.length : Int)) rfl (by omega) (by omega)
    refine ⟨t, ev_neg c ht, ?_⟩
    rcases hq with hq | ⟨q1, q2, q3⟩
    · exact .inl hq
    · exact .inr ⟨q1, by omega, by omega, q3⟩
theorem szDisk_ok (S : List ByteArray) (C : List LPut) (left : Int) (hS : S.length ≤ 9223372036854775807) (hs : ∀ s ∈ S, s.size ≤ 9223372036854775807) (hC : C.length ≤ 9223372036854775807) (hp : ∀ p ∈ C, p.f1.size ≤ 9223372036854775807) (h0 : 0 ≤ left) (h1 : left ≤ 1048576) :
    ∃ t, Ev (fun k => laws_szDisk.f k S C left) t ∧ (t < 0 ∨ (0 ≤ t ∧ t ≤ left ∧ S.length ≤ 1048576 ∧ (∀ s ∈ S, s.size ≤ 1048576) ∧ C.length ≤ 1048576 ∧ ∀ p ∈ C, p.f1.size ≤ 1048576)) := by
  unfold laws_szDisk.f
  obtain ⟨t, ht, hq⟩ := szStringS_ok S left hS hs h0 h1
  rcases hq with hq | ⟨q1, q2, q3, q4⟩
  · exact ⟨-1, ev_bind ht (ev_pos hq (Ev.now _)), .inl (by omega)⟩
  · obtain ⟨u, hu, hr⟩ := szPutS_ok C t hC hp q1 (by omega)
    rcases hr with hr | ⟨r1, r2, r3, r4⟩
    · exact ⟨-1, ev_bind ht (ev_neg (by omega) (ev_bind hu (ev_pos hr (Ev.now _)))), .inl (by omega)⟩
    · exact ⟨u, ev_bind ht (ev_neg (by omega) (ev_bind hu (ev_neg (by omega) (Ev.now _)))), .inr ⟨r1, by omega, q3, q4, r3, r4⟩⟩
/-! copies -/
theorem toStringS_l (l : List ByteArray) (hl : l.length ≤ 1048576) : ∀ (rest pre : List ByteArray), l = pre ++ rest → Ev (fun k => laws_toStringS.l0 k l (pre ++ List.replicate rest.length (⟨#[]⟩ : ByteArray)) (pre.length : Int)) l := by
  intro rest
  induction rest with
  | nil =>
    intro pre e
    refine ev_step ?_
    simp only [laws_toStringS.l0]
    exact ev_neg (by rw [e]; simp) (ev_now (by rw [e]; simp))
  | cons x rest ih =>
    intro pre e
    refine ev_step ?_
    simp only [laws_toStringS.l0]
    have hg : rdOf ByteArray.empty l (pre.length : Int) = x := by unfold rdOf; rw [Int.toNat_natCast, e, getD_mid]
    have hlt : (pre.length : Int) < (l.length : Int) := by rw [e]; exact len_mid _ _ _
    have h := ih (pre ++ [x]) (by simp [e])
    rw [List.length_append, List.length_singleton] at h
    rw [hg, next64 _ (by omega), Int.toNat_natCast, List.length_cons, List.replicate_succ, set_mid]
    refine ev_pos hlt (ev_pos (by omega) (ev_pos (by simp; omega) ?_))
    rw [List.append_assoc] at h
    exact h
theorem toStringS_ok (l : List ByteArray) (hl : l.length ≤ 1048576) : Ev (fun k => laws_toStringS.f k l) l := by
  unfold laws_toStringS.f
  rw [Int.toNat_natCast]
  exact ev_pos (by omega) (ev_pos (by omega) (toStringS_l l hl l [] rfl))
def toIPut (x : LPut) : IPut := ⟨x.f0, x.f1⟩
theorem toPutS_l (l : List LPut) (hl : l.length ≤ 1048576) : ∀ (rest pre : List LPut), l = pre ++ rest → Ev (fun k => laws_toPutS.l0 k l (pre.map toIPut ++ List.replicate rest.length z64) (pre.length : Int)) (l.map toIPut) := by
  intro rest
  induction rest with
  | nil =>
    intro pre e
    refine ev_step ?_
    simp only [laws_toPutS.l0]
    exact ev_neg (by rw [e]; simp) (ev_now (by rw [e]; simp))
  | cons x rest ih =>
    intro pre e
    refine ev_step ?_
    simp only [laws_toPutS.l0]
    have hg : rd_T80 l (pre.length : Int) = x := by unfold rd_T80; rw [Int.toNat_natCast, e, getD_mid]
    have hlt : (pre.length : Int) < (l.length : Int) := by rw [e]; exact len_mid _ _ _
    have h := ih (pre ++ [x]) (by simp [e])
    rw [List.length_append, List.length_singleton] at h
    have hm : (pre.map toIPut).length = pre.length := by simp
    rw [hg, next64 _ (by omega), Int.toNat_natCast, List.length_cons, List.replicate_succ]
    refine ev_pos hlt (ev_pos (by omega) (ev_cbind rfl (ev_pos (by simp; omega) ?_)))
    rw [← hm, set_mid, hm]
    rw [List.map_append, List.append_assoc] at h
    exact h
theorem toPutS_ok (l : List LPut) (hl : l.length ≤ 1048576) : Ev (fun k => laws_toPutS.f k l) (l.map toIPut) := by
  unfold laws_toPutS.f
  rw [Int.toNat_natCast]
  exact ev_pos (by omega) (ev_pos (by omega) (toPutS_l l hl l [] rfl))
theorem toDisk_ok (S : List ByteArray) (C : List LPut) (hS : S.length ≤ 1048576) (hC : C.length ≤ 1048576) : Ev (fun k => laws_toDisk.f k S C) (S, C.map toIPut) := by
  unfold laws_toDisk.f
  exact ev_bind (toStringS_ok S hS) (ev_bind (toPutS_ok C hC) (Ev.now _))
/-! a list is as itself -/
theorem eqStringS_l (l : List ByteArray) (hl : l.length ≤ 9223372036854775800) : ∀ (rest pre : List ByteArray), l = pre ++ rest → Ev (fun k => laws_eqStringS.l0 k l l (pre.length : Int)) true := by
  intro rest
  induction rest with
  | nil =>
    intro pre e
    refine ev_step ?_
    simp only [laws_eqStringS.l0]
    exact ev_neg (by rw [e]; simp) (Ev.now _)
  | cons x rest ih =>
    intro pre e
    refine ev_step ?_
    simp only [laws_eqStringS.l0]
    have hlt : (pre.length : Int) < (l.length : Int) := by rw [e]; exact len_mid _ _ _
    have h := ih (pre ++ [x]) (by simp [e])
    rw [List.length_append, List.length_singleton] at h
    rw [next64 _ (by omega)]
    exact ev_pos hlt (ev_pos (by omega) (ev_pos hlt (ev_pos (by first | rfl | trivial) h)))
theorem eqStringS_same (l : List ByteArray) (hl : l.length ≤ 9223372036854775800) : Ev (fun k => laws_eqStringS.f k l l) true := by
  unfold laws_eqStringS.f
  exact ev_pos rfl (eqStringS_l l hl l [] rfl)
theorem eqPut_same (x : IPut) : laws_eqPut.f x.f0 x.f1 x.f0 x.f1 = some true := by unfold laws_eqPut.f; rw [if_pos rfl, if_pos rfl]
theorem eqPutS_l (l : List IPut) (hl : l.length ≤ 9223372036854775800) : ∀ (rest pre : List IPut), l = pre ++ rest → Ev (fun k => laws_eqPutS.l0 k l l (pre.length : Int)) true := by
  intro rest
  induction rest with
  | nil =>
    intro pre e
    refine ev_step ?_
    simp only [laws_eqPutS.l0]
    exact ev_neg (by rw [e]; simp) (Ev.now _)
  | cons x rest ih =>
    intro pre e
    refine ev_step ?_
    simp only [laws_eqPutS.l0]
    have hlt : (pre.length : Int) < (l.length : Int) := by rw [e]; exact len_mid _ _ _
    have h := ih (pre ++ [x]) (by simp [e])
    rw [List.length_append, List.length_singleton] at h
    rw [next64 _ (by omega)]
    exact ev_pos hlt (ev_pos (by omega) (ev_pos hlt (ev_cbind (eqPut_same _) (ev_pos rfl h))))
theorem eqPutS_same (l : List IPut) (hl : l.length ≤ 9223372036854775800) : Ev (fun k => laws_eqPutS.f k l l) true := by
  unfold laws_eqPutS.f
  exact ev_pos rfl (eqPutS_l l hl l [] rfl)
theorem eqDisk_same (S : List ByteArray) (C : List IPut) (hS : S.length ≤ 9223372036854775800) (hC : C.length ≤ 9223372036854775800) : Ev (fun k => laws_eqDisk.f k S C S C) true := by
  unfold laws_eqDisk.f
  exact ev_bind (eqStringS_same S hS) (ev_pos rfl (ev_bind (eqPutS_same C hC) (ev_pos rfl (Ev.now _))))

/-! marks -/
theorem markText_l : ∀ (n : Nat) (acc : ByteArray), acc.size + n ≤ 4611686018427387904 → ∃ r, Ev (fun k => laws_markText.l0 k (n : Int) acc) r := by
  intro n
  induction n using Nat.strongRecOn with
  | _ n ih =>
    intro acc hb
    by_cases h : n = 0
    · subst h
      refine ⟨(⟨#[109]⟩ : ByteArray) ++ acc, ev_step ?_⟩
      simp only [laws_markText.l0]
      exact ev_neg (by omega) (ev_pos (by omega) (Ev.now _))
    · have e1 : wrap64 (Int.tdiv (n : Int) 10) = ((n / 10 : Nat) : Int) := by
        rw [show Int.tdiv (n : Int) 10 = ((n / 10 : Nat) : Int) from rfl, w64 (by omega) (by omega)]
      obtain ⟨r, hr⟩ := ih (n / 10) (by omega) (strOfNums [(wrap64 (48 + (Int.tmod (n : Int) 10))) % 256] ++ acc) (by rw [ByteArray.size_append, strOfNums_size]; simp; omega)
      refine ⟨r, ev_step ?_⟩
      simp only [laws_markText.l0]
      rw [e1]
      exact ev_pos (by omega) (ev_cbind rfl (ev_pos (by rw [strOfNums_size]; simp; omega) hr))
theorem markText_ok (n : Int) (h : n ≤ 4611686018427387904) : ∃ r, Ev (fun k => laws_markText.f k n) r := by
  unfold laws_markText.f
  by_cases c : n ≤ 0
  · exact ⟨_, ev_pos c (Ev.now _)⟩
  · obtain ⟨r, hr⟩ := markText_l n.toNat (⟨#[]⟩ : ByteArray) (by show 0 + n.toNat ≤ _; omega)
    rw [Int.toNat_of_nonneg (by omega)] at hr
    exact ⟨r, ev_neg c hr⟩
open Classical in
noncomputable def markT (n : Int) : ByteArray := if h : ∃ r, Ev (fun k => laws_markText.f k n) r then Classical.choose h else ByteArray.empty
theorem markT_ev (n : Int) (h : n ≤ 4611686018427387904) : Ev (fun k => laws_markText.f k n) (markT n) := by
  unfold markT
  rw [dif_pos (markText_ok n h)]
  exact Classical.choose_spec (markText_ok n h)
noncomputable def markL (a : Int) : Nat → List ByteArray
  | 0 => []
  | n + 1 => markT a :: markL (a + 1) n
theorem markL_length (a : Int) (n : Nat) : (markL a n).length = n := by
  induction n generalizing a with
  | zero => rfl
  | succ n ih => simp [markL, ih]
theorem markStringS_l : ∀ (rest pre : List ByteArray) (a : Int), 0 ≤ a → pre.length + rest.length ≤ 1099511627776 → a + rest.length ≤ 4611686018427387900 →
    Ev (fun k => laws_markStringS.l0 k (pre ++ rest) a (pre.length : Int)) (a + rest.length, pre ++ markL a rest.length) := by
  intro rest
  induction rest with
  | nil =>
    intro pre a h0 h1 h2
    refine ev_step ?_
    simp only [laws_markStringS.l0]
    exact ev_neg (by simp) (ev_now (by simp [markL]))
  | cons x rest ih =>
    intro pre a h0 h1 h2
    rw [List.length_cons] at h1 h2
    have h := ih (pre ++ [markT a]) (a + 1) (by omega) (by simp; omega) (by omega)
    rw [List.length_append, List.length_singleton] at h
    refine ev_step ?_
    simp only [laws_markStringS.l0]
    rw [next64 _ (by omega), Int.toNat_natCast, w64 (x := a + 1) (by omega) (by omega)]
    refine ev_pos (len_mid _ _ _) (ev_bind (markT_ev a (by omega)) (ev_pos (by omega) ?_))
    rw [set_mid]
    rw [List.append_assoc, List.append_assoc] at h
    refine ev_eq h ?_
    rw [List.length_cons]
    simp only [markL]
    refine Prod.ext (by simp; omega) rfl
theorem heldStringS_l : ∀ (n : Nat) (pre : List ByteArray) (a : Int), 0 ≤ a → pre.length + n ≤ 1099511627776 → a + n ≤ 4611686018427387900 →
    Ev (fun k => laws_heldStringS.l0 k (pre ++ markL a n) a (pre.length : Int)) (a + n) := by
  intro n
  induction n with
  | zero =>
    intro pre a h0 h1 h2
    refine ev_step ?_
    simp only [laws_heldStringS.l0]
    exact ev_neg (by simp [markL]) (ev_now (by simp))
  | succ n ih =>
    intro pre a h0 h1 h2
    have h := ih (pre ++ [markT a]) (a + 1) (by omega) (by simp; omega) (by omega)
    rw [List.length_append, List.length_singleton, List.append_assoc] at h
    refine ev_step ?_
    simp only [laws_heldStringS.l0]
    have hg : rdOf ByteArray.empty (pre ++ markL a (n + 1)) (pre.length : Int) = markT a := by unfold rdOf; simp only [markL]; rw [Int.toNat_natCast, getD_mid]
    rw [next64 _ (by omega), w64 (x := a + 1) (by omega) (by omega), hg]
    refine ev_pos (by simp only [markL]; exact len_mid _ _ _) (ev_pos (by omega) (ev_bind (markT_ev a (by omega)) (ev_pos rfl (ev_eq h (by omega)))))
theorem strings_marked (S : List ByteArray) (hS : S.length ≤ 1099511627776) : ∃ m S', Ev (fun k => laws_markStringS.f k S 1) (m, S') ∧ 0 ≤ m ∧ Ev (fun k => laws_heldStringS.f k S' 1) m := by
  refine ⟨1 + S.length, markL 1 S.length, ?_, by omega, ?_⟩
  · unfold laws_markStringS.f
    exact markStringS_l S [] 1 (by omega) (by simp; omega) (by omega)
  · unfold laws_heldStringS.f
    exact heldStringS_l S.length [] 1 (by omega) (by simp; omega) (by omega)

noncomputable def markPL (a : Int) : Nat → List IPut
  | 0 => []
  | n + 1 => (⟨a, markT (a + 1)⟩ : IPut) :: markPL (a + 2) n
theorem markPutS_l : ∀ (rest pre : List IPut) (a : Int), 0 ≤ a → pre.length + rest.length ≤ 1099511627776 → a + 2 * rest.length ≤ 4611686018427387900 →
    Ev (fun k => laws_markPutS.l0 k (pre ++ rest) a (pre.length : Int)) (a + 2 * rest.length, pre ++ markPL a rest.length) := by
  intro rest
  induction rest with
  | nil =>
    intro pre a h0 h1 h2
    refine ev_step ?_
    simp only [laws_markPutS.l0]
    exact ev_neg (by simp) (ev_now (by simp [markPL]))
  | cons x rest ih =>
    intro pre a h0 h1 h2
    rw [List.length_cons] at h1 h2
    have h := ih (pre ++ [(⟨a, markT (a + 1)⟩ : IPut)]) (a + 2) (by omega) (by simp; omega) (by omega)
    rw [List.length_append, List.length_singleton] at h
    refine ev_step ?_
    simp only [laws_markPutS.l0]
    rw [next64 _ (by omega), Int.toNat_natCast, w64 (x := a + 1) (by omega) (by omega), w64 (x := a + 1 + 1) (by omega) (by omega)]
    refine ev_pos (len_mid _ _ _) (ev_pos (by omega) (ev_cbind (by rw [set_mid]) ?_))
    refine ev_bind (markT_ev (a + 1) (by omega)) ?_
    have hg : ∀ y : IPut, rd_T64 (pre ++ y :: rest) (pre.length : Int) = y := by intro y; unfold rd_T64; rw [Int.toNat_natCast, getD_mid]
    simp only [hg]
    rw [set_mid]
    rw [List.append_assoc, List.append_assoc] at h
    rw [show a + 1 + 1 = a + 2 from by omega]
    refine ev_eq h ?_
    rw [List.length_cons]
    simp only [markPL]
    refine Prod.ext (by simp; omega) rfl
/-- A disk is marked. -/
theorem disk_marks (S : List ByteArray) (C : List IPut) (hS : S.length ≤ 1099511627776) (hC : C.length ≤ 1099511627776) :
    ∃ m S' C', Ev (fun k => laws_markDisk.f k S C 1) (m, S', C') ∧ 0 ≤ m := by
  refine ⟨1 + S.length + 2 * C.length, markL 1 S.length, markPL (1 + S.length) C.length, ?_, by omega⟩
  unfold laws_markDisk.f laws_markStringS.f laws_markPutS.f
  exact ev_bind (markStringS_l S [] 1 (by omega) (by simp; omega) (by omega)) (ev_bind (markPutS_l C [] (1 + S.length) (by omega) (by simp; omega) (by omega)) (Ev.now _))

theorem heldPutS_l : ∀ (n : Nat) (pre : List IPut) (a : Int), 0 ≤ a → pre.length + n ≤ 1099511627776 → a + 2 * n ≤ 4611686018427387900 →
    Ev (fun k => laws_heldPutS.l0 k (pre ++ markPL a n) a (pre.length : Int)) (a + 2 * n) := by
  intro n
  induction n with
  | zero =>
    intro pre a h0 h1 h2
    refine ev_step ?_
    simp only [laws_heldPutS.l0]
    exact ev_neg (by simp [markPL]) (ev_now (by simp))
  | succ n ih =>
    intro pre a h0 h1 h2
    have h := ih (pre ++ [(⟨a, markT (a + 1)⟩ : IPut)]) (a + 2) (by omega) (by simp; omega) (by omega)
    rw [List.length_append, List.length_singleton, List.append_assoc] at h
    refine ev_step ?_
    simp only [laws_heldPutS.l0]
    have hg : rd_T64 (pre ++ markPL a (n + 1)) (pre.length : Int) = (⟨a, markT (a + 1)⟩ : IPut) := by unfold rd_T64; simp only [markPL]; rw [Int.toNat_natCast, getD_mid]
    rw [next64 _ (by omega), w64 (x := a + 1) (by omega) (by omega), w64 (x := a + 1 + 1) (by omega) (by omega), hg, show a + 1 + 1 = a + 2 from by omega]
    refine ev_pos (by simp only [markPL]; exact len_mid _ _ _) (ev_pos (by omega) (ev_pos rfl (ev_bind (markT_ev (a + 1) (by omega)) (ev_pos rfl (ev_eq h (by omega))))))
/-- A disk is marked, and holds its marks. -/
theorem disk_marked (S : List ByteArray) (C : List IPut) (hS : S.length ≤ 1099511627776) (hC : C.length ≤ 1099511627776) :
    ∃ m S' C', Ev (fun k => laws_markDisk.f k S C 1) (m, S', C') ∧ 0 ≤ m ∧ m ≤ 4398046511105 ∧ Ev (fun k => laws_heldDisk.f k S' C' 1) m := by
  refine ⟨1 + S.length + 2 * C.length, markL 1 S.length, markPL (1 + S.length) C.length, ?_, by omega, by omega, ?_⟩
  · unfold laws_markDisk.f laws_markStringS.f laws_markPutS.f
    exact ev_bind (markStringS_l S [] 1 (by omega) (by simp; omega) (by omega)) (ev_bind (markPutS_l C [] (1 + S.length) (by omega) (by simp; omega) (by omega)) (Ev.now _))
  · unfold laws_heldDisk.f laws_heldStringS.f laws_heldPutS.f
    exact ev_bind (heldStringS_l S.length [] 1 (by omega) (by simp; omega) (by omega)) (ev_neg (by omega) (ev_bind (heldPutS_l C.length [] (1 + S.length) (by omega) (by simp; omega) (by omega)) (ev_neg (by omega) (Ev.now _))))


/-! what the laws' own helpers tell: rows of whole numbers -/
theorem toIntS_l (l : List Int) (hl : l.length ≤ 1099511627776) : ∀ (rest pre : List Int), l = pre ++ rest → Ev (fun k => laws_toIntS.l0 k l (pre ++ List.replicate rest.length 0) (pre.length : Int)) l := by
  intro rest
  induction rest with
  | nil =>
    intro pre e
    refine ev_step ?_
    simp only [laws_toIntS.l0]
    refine ev_neg (by rw [e]; simp) (ev_now ?_)
    rw [e]; simp
  | cons x rest ih =>
    intro pre e
    have hg : rd l (pre.length : Int) = x := by unfold rd; rw [Int.toNat_natCast, e, getD_mid]
    have hlt : (pre.length : Int) < (l.length : Int) := by rw [e]; exact len_mid _ _ _
    have h := ih (pre ++ [x]) (by simp [e])
    rw [List.length_append, List.length_singleton] at h
    refine ev_step ?_
    simp only [laws_toIntS.l0]
    rw [hg, next64 _ (by omega)]
    have hs : (pre ++ List.replicate (x :: rest).length 0).set ((pre.length : Int)).toNat x = (pre ++ [x]) ++ List.replicate rest.length 0 := by
      rw [Int.toNat_natCast, List.set_append_right _ _ (Nat.le_refl _), Nat.sub_self]
      simp [List.replicate_succ]
    rw [hs]
    exact ev_pos hlt (ev_pos (by omega) (ev_pos (by simp; omega) h))
theorem toIntS_ok (l : List Int) (hl : l.length ≤ 1048576) : Ev (fun k => laws_toIntS.f k l) l := by
  unfold laws_toIntS.f
  have h := toIntS_l l (by omega) l [] rfl
  simp only [List.nil_append, List.length_nil] at h
  exact ev_pos (by omega) (ev_pos (by omega) (by rw [Int.toNat_natCast]; exact h))
theorem eqIntS_l (l : List Int) (hl : l.length ≤ 1099511627776) : ∀ (rest pre : List Int), l = pre ++ rest → Ev (fun k => laws_eqIntS.l0 k l l (pre.length : Int)) true := by
  intro rest
  induction rest with
  | nil =>
    intro pre e
    refine ev_step ?_
    simp only [laws_eqIntS.l0]
    exact ev_neg (by rw [e]; simp) (Ev.now _)
  | cons x rest ih =>
    intro pre e
    have hlt : (pre.length : Int) < (l.length : Int) := by rw [e]; exact len_mid _ _ _
    have h := ih (pre ++ [x]) (by simp [e])
    rw [List.length_append, List.length_singleton] at h
    refine ev_step ?_
    simp only [laws_eqIntS.l0]
    rw [next64 _ (by omega)]
    exact ev_pos hlt (ev_pos (by omega) (ev_pos hlt (ev_pos (by first | rfl | trivial) h)))
theorem eqIntS_same (l : List Int) (hl : l.length ≤ 1048576) : Ev (fun k => laws_eqIntS.f k l l) true := by
  unfold laws_eqIntS.f
  exact ev_pos rfl (eqIntS_l l (by omega) l [] rfl)
theorem markIntS_l : ∀ (m : Nat) (l : List Int) (x : Int) (i : Nat), i + m = l.length → l.length ≤ 1099511627776 → 0 ≤ x → x + m ≤ 4611686018427387900 → ∃ l', Ev (fun k => laws_markIntS.l0 k l x (i : Int)) (x + m, l')
  | 0, l, x, i, e, hl, h0, h1 => by
    refine ⟨l, ev_step ?_⟩
    simp only [laws_markIntS.l0]
    exact ev_neg (by omega) (ev_now (by simp))
  | m + 1, l, x, i, e, hl, h0, h1 => by
    obtain ⟨l', h⟩ := markIntS_l m (l.set i x) (x + 1) (i + 1) (by simp; omega) (by simp; omega) (by omega) (by omega)
    refine ⟨l', ev_step ?_⟩
    simp only [laws_markIntS.l0]
    rw [next64 _ (by omega), w64 (x := x + 1) (by omega) (by omega), Int.toNat_natCast]
    refine ev_pos (by omega) (ev_pos (by omega) (ev_eq h ?_))
    rw [show x + 1 + (m : Int) = x + ((m + 1 : Nat) : Int) by omega]
theorem markIntS_ok (l : List Int) (x : Int) (hl : l.length ≤ 1048576) (h0 : 0 ≤ x) (h1 : x ≤ 4398046511105) : ∃ l', Ev (fun k => laws_markIntS.f k l x) (x + l.length, l') := by
  unfold laws_markIntS.f
  exact markIntS_l l.length l x 0 (by omega) (by omega) h0 (by omega)

theorem within_val (a b c : Int) : impl_within.f a b c = some (decide (b ≤ a ∧ a ≤ c)) := by
  unfold impl_within.f
  by_cases h : a ≥ b
  · rw [if_pos h]; congr 1; simp; intro; exact h
  · rw [if_neg h]; congr 1; simp; intro h2; omega
theorem in_val (a b c : Int) : spec_l01In.f a b c = some (decide (b ≤ a ∧ a ≤ c)) := by
  unfold spec_l01In.f
  by_cases h : a ≥ b
  · rw [if_pos h]; congr 1; simp; intro; exact h
  · rw [if_neg h]; congr 1; simp; intro h2; omega

/-! a disk is right -/
def goodP (n : Nat) (p : IPut) : Bool := decide ((0 ≤ p.f0 ∧ p.f0 ≤ (n : Int) - 1) ∧ (p.f1.size : Int) = 64)
def goodS (s : ByteArray) : Bool := decide ((s.size : Int) = 64)
def lensOk (S : List ByteArray) (C : List IPut) : Bool := decide ((1 : Int) ≤ S.length ∧ (S.length : Int) ≤ 100) && decide ((C.length : Int) ≤ 60)
def diskOkM (S : List ByteArray) (C : List IPut) : Bool := S.all goodS && (C.all (goodP S.length) && lensOk S C)
theorem diskOk_iff (S : List ByteArray) (C : List IPut) : diskOkM S C = true ↔ (1 ≤ S.length ∧ S.length ≤ 100 ∧ C.length ≤ 60 ∧ (∀ s ∈ S, s.size = 64) ∧ ∀ p ∈ C, 0 ≤ p.f0 ∧ p.f0 < (S.length : Int) ∧ p.f1.size = 64) := by
  unfold diskOkM lensOk
  simp only [Bool.and_eq_true, List.all_eq_true, goodS, goodP, decide_eq_true_eq]
  constructor
  · rintro ⟨h1, h2, ⟨h3, h4⟩, h5⟩
    refine ⟨by omega, by omega, by omega, fun s hs => by have := h1 s hs; omega, fun p hp => ?_⟩
    have := h2 p hp
    omega
  · rintro ⟨h1, h2, h3, h4, h5⟩
    refine ⟨fun s hs => by have := h4 s hs; omega, fun p hp => ?_, ⟨by omega, by omega⟩, by omega⟩
    have := h5 p hp
    omega
theorem impl_ok1 (S : List ByteArray) (C : List IPut) (hS : S.length ≤ 1099511627776) (hC : C.length ≤ 1099511627776) : ∀ (rest pre : List IPut), C = pre ++ rest →
    Ev (fun k => impl_DiskOk.l1 k C (C.length : Int) (pre.length : Int) S C) (rest.all (goodP S.length) && lensOk S C) := by
  intro rest
  induction rest with
  | nil =>
    intro pre e
    refine ev_step ?_
    simp only [impl_DiskOk.l1]
    refine ev_neg (by rw [e]; simp) (ev_cbind (within_val _ _ _) ?_)
    unfold lensOk
    by_cases h : (1 : Int) ≤ S.length ∧ (S.length : Int) ≤ 100
    · rw [decide_eq_true h]; exact ev_pos rfl (ev_now (by simp))
    · rw [decide_eq_false h]; exact ev_neg (by simp) (ev_now (by simp))
  | cons p rest ih =>
    intro pre e
    have hg : rd_T64 C (pre.length : Int) = p := by unfold rd_T64; rw [Int.toNat_natCast, e, getD_mid]
    have hlt : (pre.length : Int) < (C.length : Int) := by rw [e]; exact len_mid _ _ _
    have h := ih (pre ++ [p]) (by simp [e])
    rw [List.length_append, List.length_singleton] at h
    refine ev_step ?_
    simp only [impl_DiskOk.l1]
    rw [hg, next64 _ (by omega), w64 (x := (S.length : Int) - 1) (by omega) (by omega)]
    refine ev_pos hlt (ev_pos (by omega) (ev_pos hlt (ev_cbind (within_val _ _ _) ?_)))
    rw [List.all_cons]
    unfold goodP
    by_cases h1 : 0 ≤ p.f0 ∧ p.f0 ≤ (S.length : Int) - 1
    · rw [decide_eq_true h1]
      by_cases h2 : (p.f1.size : Int) = 64
      · refine ev_pos rfl (ev_pos h2 (ev_eq h ?_))
        rw [decide_eq_true (⟨h1, h2⟩ : (0 ≤ p.f0 ∧ p.f0 ≤ (S.length : Int) - 1) ∧ (p.f1.size : Int) = 64), Bool.true_and]
        rfl
      · refine ev_pos rfl (ev_neg h2 (ev_now ?_))
        rw [decide_eq_false (fun h => h2 h.2)]; rfl
    · rw [decide_eq_false h1]
      refine ev_neg (by simp) (ev_now ?_)
      rw [decide_eq_false (fun h => h1 h.1)]; rfl
theorem impl_ok0 (S : List ByteArray) (C : List IPut) (hS : S.length ≤ 1099511627776) (hC : C.length ≤ 1099511627776) : ∀ (rest pre : List ByteArray), S = pre ++ rest →
    Ev (fun k => impl_DiskOk.l0 k S (S.length : Int) (pre.length : Int) S C) (rest.all goodS && (C.all (goodP S.length) && lensOk S C)) := by
  intro rest
  induction rest with
  | nil =>
    intro pre e
    refine ev_step ?_
    simp only [impl_DiskOk.l0]
    refine ev_neg (by rw [e]; simp) (ev_eq (impl_ok1 S C hS hC C [] rfl) ?_)
    rw [List.all_nil, Bool.true_and]
  | cons s rest ih =>
    intro pre e
    have hg : rdOf ByteArray.empty S (pre.length : Int) = s := by unfold rdOf; rw [Int.toNat_natCast, e, getD_mid]
    have hlt : (pre.length : Int) < (S.length : Int) := by rw [e]; exact len_mid _ _ _
    have h := ih (pre ++ [s]) (by simp [e])
    rw [List.length_append, List.length_singleton] at h
    refine ev_step ?_
    simp only [impl_DiskOk.l0]
    rw [hg, next64 _ (by omega)]
    refine ev_pos hlt (ev_pos (by omega) (ev_pos hlt ?_))
    rw [List.all_cons]
    unfold goodS
    by_cases h2 : (s.size : Int) = 64
    · refine ev_pos h2 (ev_eq h ?_)
      rw [decide_eq_true h2, Bool.true_and]
      rfl
    · refine ev_neg h2 (ev_now ?_)
      rw [decide_eq_false h2]; rfl
theorem impl_diskOk (S : List ByteArray) (C : List IPut) (hS : S.length ≤ 1099511627776) (hC : C.length ≤ 1099511627776) : Ev (fun k => impl_DiskOk.f k S C) (diskOkM S C) := impl_ok0 S C hS hC S [] rfl
theorem spec_ok1 (S : List ByteArray) (C : List IPut) (hS : S.length ≤ 1099511627776) (hC : C.length ≤ 1099511627776) : ∀ (rest pre : List IPut), C = pre ++ rest →
    Ev (fun k => spec_DiskOk.l1 k (pre.length : Int) S C) (rest.all (goodP S.length)) := by
  intro rest
  induction rest with
  | nil =>
    intro pre e
    refine ev_step ?_
    simp only [spec_DiskOk.l1]
    exact ev_neg (by rw [e]; simp) (Ev.now _)
  | cons p rest ih =>
    intro pre e
    have hg : rd_T64 C (pre.length : Int) = p := by unfold rd_T64; rw [Int.toNat_natCast, e, getD_mid]
    have hlt : (pre.length : Int) < (C.length : Int) := by rw [e]; exact len_mid _ _ _
    have h := ih (pre ++ [p]) (by simp [e])
    rw [List.length_append, List.length_singleton] at h
    refine ev_step ?_
    simp only [spec_DiskOk.l1]
    rw [hg, next64 _ (by omega), w64 (x := (S.length : Int) - 1) (by omega) (by omega)]
    refine ev_pos hlt (ev_pos (by omega) (ev_cbind (in_val _ _ _) ?_))
    rw [List.all_cons]
    unfold goodP
    by_cases h1 : 0 ≤ p.f0 ∧ p.f0 ≤ (S.length : Int) - 1
    · rw [decide_eq_true h1]
      by_cases h2 : (p.f1.size : Int) = 64
      · refine ev_pos rfl (ev_pos h2 (ev_eq h ?_))
        rw [decide_eq_true (⟨h1, h2⟩ : (0 ≤ p.f0 ∧ p.f0 ≤ (S.length : Int) - 1) ∧ (p.f1.size : Int) = 64), Bool.true_and]
        rfl
      · refine ev_pos rfl (ev_neg h2 (ev_now ?_))
        rw [decide_eq_false (fun h => h2 h.2)]; rfl
    · rw [decide_eq_false h1]
      refine ev_neg (by simp) (ev_now ?_)
      rw [decide_eq_false (fun h => h1 h.1)]; rfl
theorem spec_ok0 (S : List ByteArray) (C : List IPut) (hS : S.length ≤ 1099511627776) (hC : C.length ≤ 1099511627776) : ∀ (rest pre : List ByteArray), S = pre ++ rest →
    Ev (fun k => spec_DiskOk.l0 k (pre.length : Int) S C) (rest.all goodS && C.all (goodP S.length)) := by
  intro rest
  induction rest with
  | nil =>
    intro pre e
    refine ev_step ?_
    simp only [spec_DiskOk.l0]
    refine ev_neg (by rw [e]; simp) (ev_eq (spec_ok1 S C hS hC C [] rfl) ?_)
    rw [List.all_nil, Bool.true_and]
  | cons s rest ih =>
    intro pre e
    have hg : rdOf ByteArray.empty S (pre.length : Int) = s := by unfold rdOf; rw [Int.toNat_natCast, e, getD_mid]
    have hlt : (pre.length : Int) < (S.length : Int) := by rw [e]; exact len_mid _ _ _
    have h := ih (pre ++ [s]) (by simp [e])
    rw [List.length_append, List.length_singleton] at h
    refine ev_step ?_
    simp only [spec_DiskOk.l0]
    rw [hg, next64 _ (by omega)]
    refine ev_pos hlt (ev_pos (by omega) ?_)
    rw [List.all_cons]
    unfold goodS
    by_cases h2 : (s.size : Int) = 64
    · refine ev_pos h2 (ev_eq h ?_)
      rw [decide_eq_true h2, Bool.true_and]
      rfl
    · refine ev_neg h2 (ev_now ?_)
      rw [decide_eq_false h2]; rfl
theorem spec_diskOk (S : List ByteArray) (C : List IPut) (hS : S.length ≤ 1099511627776) (hC : C.length ≤ 1099511627776) : Ev (fun k => spec_DiskOk.f k S C) (diskOkM S C) := by
  unfold spec_DiskOk.f diskOkM lensOk
  refine ev_cbind (in_val _ _ _) ?_
  by_cases h1 : (1 : Int) ≤ S.length ∧ (S.length : Int) ≤ 100
  · rw [decide_eq_true h1]
    refine ev_pos rfl (ev_step ?_)
    simp only [spec_DiskOk.j0]
    by_cases h2 : (C.length : Int) > 60
    · rw [decide_eq_true h2]
      refine ev_pos rfl (ev_now ?_)
      rw [decide_eq_false (show ¬ (C.length : Int) ≤ 60 by omega)]; simp
    · rw [decide_eq_false h2]
      refine ev_neg (by simp) (ev_eq (spec_ok0 S C hS hC S [] rfl) ?_)
      rw [decide_eq_true (show (C.length : Int) ≤ 60 by omega)]; simp
  · rw [decide_eq_false h1]
    refine ev_neg (by simp) (ev_step ?_)
    simp only [spec_DiskOk.j0]
    exact ev_pos (by first | rfl | trivial) (ev_now (by simp))

theorem impl_copy (S : List ByteArray) (C : List IPut) (hS : S.length ≤ 1099511627776) (hC : C.length ≤ 1099511627776) : impl_copyDisk.f S C = some (S, C) := by
  unfold impl_copyDisk.f
  rw [if_pos (by simp; omega), if_pos (by simp; omega), List.nil_append, List.nil_append]
theorem spec_copy (S : List ByteArray) (C : List IPut) (hS : S.length ≤ 1099511627776) (hC : C.length ≤ 1099511627776) : spec_l03Copy.f S C = some (S, C) := by
  unfold spec_l03Copy.f
  simp only [Option.bind_some]
  rw [if_pos (by simp; omega), if_pos (by simp; omega), List.nil_append, List.nil_append]

/-! a disk that crashes -/
def keptB (K : List Int) (i : Nat) : Bool := decide ((i : Int) < (K.length : Int)) && !decide (Int.tmod (rd K (i : Int)) 2 = 0)
def lastC (K : List Int) : Nat → Nat → Int → Int
  | 0, _, x => x
  | m + 1, i, x => lastC K m (i + 1) (if keptB K i = true then (i : Int) else x)
theorem lastC_off (K : List Int) : ∀ (m i : Nat) (x : Int), K.length ≤ i → lastC K m i x = x
  | 0, _, _, _ => rfl
  | m + 1, i, x, h => by
    have h1 : keptB K i = false := by unfold keptB; rw [decide_eq_false (by omega), Bool.false_and]
    rw [lastC, h1, if_neg (by simp)]
    exact lastC_off K m (i + 1) x (by omega)
theorem lastC_told (K : List Int) : ∀ (m i : Nat) (x : Int), (lastC K m i x = x ∧ ∀ j, i ≤ j → j < i + m → keptB K j = false) ∨ ∃ j : Nat, i ≤ j ∧ j < i + m ∧ lastC K m i x = (j : Int) ∧ keptB K j = true ∧ ∀ q, j < q → q < i + m → keptB K q = false
  | 0, i, x => .inl ⟨rfl, fun j h1 h2 => by omega⟩
  | m + 1, i, x => by
    rw [lastC]
    rcases lastC_told K m (i + 1) (if keptB K i = true then (i : Int) else x) with ⟨e, h⟩ | ⟨j, h1, h2, e, h3, h4⟩
    · by_cases c : keptB K i = true
      · rw [if_pos c] at e ⊢
        exact .inr ⟨i, Nat.le_refl _, by omega, e, c, fun q hq hq2 => h q (by omega) (by omega)⟩
      · rw [if_neg c] at e ⊢
        refine .inl ⟨e, fun j h1 h2 => ?_⟩
        by_cases hj : j = i
        · rw [hj]; simpa using c
        · exact h j (by omega) (by omega)
    · exact .inr ⟨j, by omega, by omega, e, h3, fun q hq hq2 => h4 q hq (by omega)⟩
def tornM (p : IPut) (n : Int) (A : List ByteArray) : ByteArray := p.f1.extract 0 n.toNat ++ (rdOf ByteArray.empty A p.f0).extract n.toNat (rdOf ByteArray.empty A p.f0).size
def stepC (K : List Int) (last n : Int) (i : Nat) (p : IPut) (A : List ByteArray) : List ByteArray := if (i : Int) = last then A.set p.f0.toNat (tornM p n A) else if keptB K i = true then A.set p.f0.toNat p.f1 else A
def crashC (K : List Int) (last n : Int) : Nat → List IPut → List ByteArray → List ByteArray
  | _, [], A => A
  | i, p :: C, A => crashC K last n (i + 1) C (stepC K last n i p A)
def tearM (t : Int) : Int := if Int.tmod t 65 < 0 then Int.tmod t 65 + 65 else Int.tmod t 65
theorem tearM_in (t : Int) : 0 ≤ tearM t ∧ tearM t ≤ 64 := by
  unfold tearM
  have h1 := Int.tmod_lt_of_pos t (show (0 : Int) < 65 by decide)
  have h2 : -65 < Int.tmod t 65 := by
    rcases Int.le_total 0 t with h | h
    · have := Int.tmod_nonneg 65 h; omega
    · have h3 : Int.tmod (-t) 65 = -Int.tmod t 65 := Int.neg_tmod ..
      have h4 := Int.tmod_lt_of_pos (-t) (show (0 : Int) < 65 by decide)
      omega
  split <;> omega
def crashM (S : List ByteArray) (C : List IPut) (K : List Int) (t : Int) : List ByteArray × List IPut := if diskOkM S C = true then (crashC K (lastC K C.length 0 (-1)) (tearM t) 0 C S, []) else (S, C)
theorem torn_size (p : IPut) (n : Int) (A : List ByteArray) (h0 : 0 ≤ n) (h1 : n ≤ 64) (hp : p.f1.size = 64) (ha : (rdOf ByteArray.empty A p.f0).size = 64) : (tornM p n A).size = 64 := by
  unfold tornM
  rw [ByteArray.size_append, ByteArray.size_extract, ByteArray.size_extract, hp, ha]
  omega
theorem wrap_tear (t : Int) (h : Int.tmod t 65 < 0) : wrap64 (Int.tmod t 65 + 65) = tearM t ∧ wrap64 (wrap64 (Int.tmod t 65 + 64) + 1) = tearM t := by
  have hb := tearM_in t
  unfold tearM at hb ⊢
  rw [if_pos h] at hb ⊢
  rw [w64 (x := Int.tmod t 65 + 65) (by omega) (by omega), w64 (x := Int.tmod t 65 + 64) (by omega) (by omega), w64 (by omega) (by omega)]
  exact ⟨rfl, by omega⟩
theorem goodSet (A : List ByteArray) (n : Nat) (s : ByteArray) (hA : ∀ a ∈ A, a.size = 64) (hs : s.size = 64) : ∀ a ∈ A.set n s, a.size = 64 := fun a ha => by
  rcases List.mem_or_eq_of_mem_set ha with h | rfl
  · exact hA a h
  · exact hs
theorem rdOf_good (A : List ByteArray) (i : Int) (hA : ∀ a ∈ A, a.size = 64) (h0 : 0 ≤ i) (h1 : i < (A.length : Int)) : (rdOf ByteArray.empty A i).size = 64 := by
  unfold rdOf
  have h2 : i.toNat < A.length := by omega
  rw [List.getD_eq_getElem?_getD, List.getElem?_eq_getElem h2, Option.getD_some]
  exact hA _ (List.getElem_mem h2)
theorem impl_crash1 (K : List Int) (last n : Int) (C : List IPut) (hn : 0 ≤ n ∧ n ≤ 64) (N : Nat) (hC : C.length ≤ 1099511627776) (hg : ∀ p ∈ C, 0 ≤ p.f0 ∧ p.f0 < (N : Int) ∧ p.f1.size = 64) : ∀ (rest pre : List IPut) (A : List ByteArray), C = pre ++ rest → A.length = N → (∀ a ∈ A, a.size = 64) →
    Ev (fun k => impl_CrashDisk.l1 k K last n C (C.length : Int) (pre.length : Int) A) (crashC K last n pre.length rest A, ([] : List IPut)) := by
  intro rest
  induction rest with
  | nil =>
    intro pre A e hA hz
    refine ev_step ?_
    simp only [impl_CrashDisk.l1]
    exact ev_neg (by rw [e]; simp) (Ev.now _)
  | cons p rest ih =>
    intro pre A e hA hz
    have hg2 : rd_T64 C (pre.length : Int) = p := by unfold rd_T64; rw [Int.toNat_natCast, e, getD_mid]
    have hlt : (pre.length : Int) < (C.length : Int) := by rw [e]; exact len_mid _ _ _
    have hp := hg p (by rw [e]; simp)
    have hr := rdOf_good A p.f0 hz hp.1 (by rw [hA]; exact hp.2.1)
    refine ev_step ?_
    simp only [impl_CrashDisk.l1]
    rw [hg2, next64 _ (by omega), crashC]
    have go : ∀ A', A'.length = N → (∀ a ∈ A', a.size = 64) → Ev (fun k => impl_CrashDisk.l1 k K last n C (C.length : Int) ((pre.length + 1 : Nat) : Int) A') (crashC K last n (pre.length + 1) rest A', ([] : List IPut)) := by
      intro A' h1 h2
      have h := ih (pre ++ [p]) A' (by simp [e]) h1 h2
      rwa [List.length_append, List.length_singleton] at h
    refine ev_pos hlt (ev_pos (by omega) (ev_pos hlt ?_))
    unfold stepC
    by_cases c : (pre.length : Int) = last
    · rw [if_pos c]
      have ht := torn_size p n A hn.1 hn.2 hp.2.2 hr
      have ht2 := ht
      unfold tornM at ht2
      rw [ByteArray.size_append] at ht2
      exact ev_pos c (ev_pos hn.1 (ev_pos (by omega) (ev_pos hp.1 (ev_pos (by rw [hA]; exact hp.2.1) (ev_pos (by omega) (ev_pos (by omega) (go _ (by simp [hA]) (goodSet _ _ _ hz ht))))))))
    · rw [if_neg c]
      refine ev_neg c ?_
      unfold keptB
      by_cases c1 : (pre.length : Int) < (K.length : Int)
      · rw [decide_eq_true c1, Bool.true_and]
        by_cases c2 : Int.tmod (rd K (pre.length : Int)) 2 = 0
        · rw [decide_eq_true c2, if_neg (by simp)]
          exact ev_pos c1 (ev_pos c2 (go A hA hz))
        · rw [decide_eq_false c2, if_pos (by simp)]
          exact ev_pos c1 (ev_neg c2 (ev_pos hp.1 (ev_pos (by rw [hA]; exact hp.2.1) (go _ (by simp [hA]) (goodSet _ _ _ hz hp.2.2)))))
      · rw [decide_eq_false c1, Bool.false_and, if_neg (by simp)]
        exact ev_neg c1 (go A hA hz)
theorem crash_rest (K : List Int) (last n : Int) : ∀ (rest : List IPut) (i : Nat) (A : List ByteArray), (∀ j, i ≤ j → j < i + rest.length → keptB K j = false) → (last < (i : Int)) → crashC K last n i rest A = A
  | [], _, _, _, _ => rfl
  | p :: rest, i, A, h, hl => by
    rw [crashC]
    have h1 := h i (Nat.le_refl _) (by simp)
    unfold stepC
    rw [if_neg (by omega), h1, if_neg (by simp)]
    exact crash_rest K last n rest (i + 1) A (fun j a b => h j (by omega) (by simp; omega)) (by omega)
theorem spec_crash1 (K : List Int) (last n : Int) (S : List ByteArray) (C D : List IPut) (hn : 0 ≤ n ∧ n ≤ 64) (N : Nat) (hC : C.length ≤ 1099511627776) (hg : ∀ p ∈ C, 0 ≤ p.f0 ∧ p.f0 < (N : Int) ∧ p.f1.size = 64)
    (hk : last < (K.length : Int)) (hc : last < (C.length : Int)) (hodd : ∀ i : Nat, (i : Int) = last → keptB K i = true) (hlast : ∀ j : Nat, last < (j : Int) → j < C.length → keptB K j = false) : ∀ (rest pre : List IPut) (A : List ByteArray), C = pre ++ rest → A.length = N → (∀ a ∈ A, a.size = 64) →
    Ev (fun k => spec_CrashDisk.l1 k K last n (pre.length : Int) S C A D) (crashC K last n pre.length rest A, ([] : List IPut)) := by
  intro rest
  induction rest with
  | nil =>
    intro pre A e hA hz
    refine ev_step ?_
    simp only [spec_CrashDisk.l1]
    exact ev_neg (by rw [e] at hc; simp at hc; omega) (Ev.now _)
  | cons p rest ih =>
    intro pre A e hA hz
    have hg2 : rd_T64 C (pre.length : Int) = p := by unfold rd_T64; rw [Int.toNat_natCast, e, getD_mid]
    have hlt : (pre.length : Int) < (C.length : Int) := by rw [e]; exact len_mid _ _ _
    have hp := hg p (by rw [e]; simp)
    have hr := rdOf_good A p.f0 hz hp.1 (by rw [hA]; exact hp.2.1)
    refine ev_step ?_
    simp only [spec_CrashDisk.l1]
    by_cases c0 : (pre.length : Int) ≤ last
    · rw [hg2, next64 _ (by omega), crashC]
      have go : ∀ A', A'.length = N → (∀ a ∈ A', a.size = 64) → Ev (fun k => spec_CrashDisk.l1 k K last n ((pre.length + 1 : Nat) : Int) S C A' D) (crashC K last n (pre.length + 1) rest A', ([] : List IPut)) := by
        intro A' h1 h2
        have h := ih (pre ++ [p]) A' (by simp [e]) h1 h2
        rwa [List.length_append, List.length_singleton] at h
      have c1 : (pre.length : Int) < (K.length : Int) := by omega
      refine ev_pos c0 (ev_pos (by omega) (ev_pos c1 ?_))
      unfold stepC
      by_cases c2 : Int.tmod (rd K (pre.length : Int)) 2 = 0
      · have hkb : keptB K pre.length = false := by unfold keptB; rw [decide_eq_true c2]; simp
        have hne : ¬ (pre.length : Int) = last := fun h => by rw [hodd _ h] at hkb; cases hkb
        rw [if_neg hne, hkb, if_neg (by simp)]
        exact ev_pos c2 (go A hA hz)
      · have hkb : keptB K pre.length = true := by unfold keptB; rw [decide_eq_true c1, decide_eq_false c2]; rfl
        refine ev_neg c2 (ev_pos hlt ?_)
        by_cases c : (pre.length : Int) = last
        · rw [if_pos c]
          have ht := torn_size p n A hn.1 hn.2 hp.2.2 hr
          have ht2 := ht
          unfold tornM at ht2
          rw [ByteArray.size_append] at ht2
          exact ev_pos c (ev_pos hn.1 (ev_pos (by omega) (ev_pos hp.1 (ev_pos (by rw [hA]; exact hp.2.1) (ev_pos (by omega) (ev_pos (by omega) (go _ (by simp [hA]) (goodSet _ _ _ hz ht))))))))
        · rw [if_neg c, hkb, if_pos rfl]
          exact ev_neg c (ev_pos hp.1 (ev_pos (by rw [hA]; exact hp.2.1) (go _ (by simp [hA]) (goodSet _ _ _ hz hp.2.2))))
    · refine ev_neg c0 ?_
      rw [crash_rest K last n (p :: rest) pre.length A (fun j a b => hlast j (by omega) (by rw [e]; simp at b ⊢; omega)) (by omega)]
      exact Ev.now _
theorem impl_crash0 (K : List Int) (t : Int) (S : List ByteArray) (C : List IPut) (A : List ByteArray) (hC : C.length ≤ 1099511627776) (v : List ByteArray × List IPut)
    (h : ∀ last, last = lastC K C.length 0 (-1) → Ev (fun k => impl_CrashDisk.j1 k K last (tearM t) S C A) v) : ∀ (m i : Nat) (x : Int), i + m = C.length → lastC K m i x = lastC K C.length 0 (-1) → Ev (fun k => impl_CrashDisk.l0 k K t x (C.length : Int) (i : Int) S C A) v
  | 0, i, x, e, hl => by
    refine ev_step ?_
    simp only [impl_CrashDisk.l0]
    refine ev_neg (by omega) ?_
    by_cases c : Int.tmod t 65 < 0
    · rw [(wrap_tear t c).1]
      exact ev_pos c (h x hl)
    · have e2 : Int.tmod t 65 = tearM t := by unfold tearM; rw [if_neg c]
      refine ev_neg c ?_
      rw [e2]
      exact h x hl
  | m + 1, i, x, e, hl => by
    refine ev_step ?_
    simp only [impl_CrashDisk.l0]
    rw [next64 _ (by omega)]
    rw [lastC] at hl
    refine ev_pos (by omega) ?_
    unfold keptB at hl
    by_cases c1 : (i : Int) < (K.length : Int)
    · rw [decide_eq_true c1, Bool.true_and] at hl
      refine ev_pos c1 (ev_pos (by omega) ?_)
      by_cases c2 : Int.tmod (rd K (i : Int)) 2 = 0
      · rw [decide_eq_true c2, if_neg (by simp)] at hl
        exact ev_pos c2 (impl_crash0 K t S C A hC v h m (i + 1) x (by omega) hl)
      · rw [decide_eq_false c2, if_pos (by simp)] at hl
        exact ev_neg c2 (impl_crash0 K t S C A hC v h m (i + 1) i (by omega) hl)
    · rw [decide_eq_false c1, Bool.false_and, if_neg (by simp)] at hl
      exact ev_neg c1 (impl_crash0 K t S C A hC v h m (i + 1) x (by omega) hl)
theorem spec_crash0 (K : List Int) (t : Int) (S : List ByteArray) (C : List IPut) (A : List ByteArray) (D : List IPut) (hC : C.length ≤ 1099511627776) (v : List ByteArray × List IPut)
    (h : ∀ last, last = lastC K C.length 0 (-1) → Ev (fun k => spec_CrashDisk.l1 k K last (tearM t) 0 S C A D) v) : ∀ (m i : Nat) (x : Int), i + m = C.length → lastC K m i x = lastC K C.length 0 (-1) → Ev (fun k => spec_CrashDisk.l0 k K t x (i : Int) S C A D) v := by
  have fin : ∀ (i : Int) (x : Int), x = lastC K C.length 0 (-1) → Ev (fun k => spec_CrashDisk.j1 k K t x i false S C A D) v := by
    intro i x hl
    refine ev_step ?_
    simp only [spec_CrashDisk.j1]
    refine ev_neg (by simp) ?_
    have h2 : Ev (fun k => spec_CrashDisk.j2 k K x (tearM t) S C A D) v := by
      refine ev_step ?_
      simp only [spec_CrashDisk.j2]
      exact h x hl
    by_cases c : Int.tmod t 65 < 0
    · rw [(wrap_tear t c).2]
      exact ev_pos c h2
    · have e2 : Int.tmod t 65 = tearM t := by unfold tearM; rw [if_neg c]
      refine ev_neg c ?_
      rw [e2]
      exact h2
  intro m
  induction m with
  | zero =>
    intro i x e hl
    refine ev_step ?_
    simp only [spec_CrashDisk.l0]
    exact ev_neg (by omega) (fin _ x hl)
  | succ m ih =>
    intro i x e hl
    refine ev_step ?_
    simp only [spec_CrashDisk.l0]
    refine ev_pos (by omega) ?_
    by_cases c1 : (i : Int) < (K.length : Int)
    · rw [decide_eq_true c1]
      refine ev_step ?_
      simp only [spec_CrashDisk.j1]
      rw [next64 _ (by omega)]
      rw [lastC] at hl
      unfold keptB at hl
      rw [decide_eq_true c1, Bool.true_and] at hl
      refine ev_pos (by first | rfl | trivial) (ev_pos (by omega) (ev_pos c1 ?_))
      by_cases c2 : Int.tmod (rd K (i : Int)) 2 = 0
      · rw [decide_eq_true c2, if_neg (by simp)] at hl
        exact ev_pos c2 (ih (i + 1) x (by omega) hl)
      · rw [decide_eq_false c2, if_pos (by simp)] at hl
        exact ev_neg c2 (ih (i + 1) i (by omega) hl)
    · rw [decide_eq_false c1]
      rw [lastC_off K (m + 1) i x (by omega)] at hl
      exact fin _ x hl
theorem last_facts (K : List Int) (n : Nat) : lastC K n 0 (-1) < (n : Int) ∧ (lastC K n 0 (-1) < (K.length : Int)) ∧ (∀ i : Nat, (i : Int) = lastC K n 0 (-1) → keptB K i = true) ∧ ∀ j : Nat, lastC K n 0 (-1) < (j : Int) → j < n → keptB K j = false := by
  rcases lastC_told K n 0 (-1) with ⟨e, h⟩ | ⟨j, h1, h2, e, h3, h4⟩
  · rw [e]
    exact ⟨by omega, by omega, fun i hi => by omega, fun j _ hj => h j (by omega) (by omega)⟩
  · rw [e]
    have hk := h3
    unfold keptB at hk
    simp only [Bool.and_eq_true, decide_eq_true_eq] at hk
    exact ⟨by omega, hk.1, fun i hi => by have : i = j := by omega
                                          rw [this]; exact h3, fun q hq hq2 => h4 q (by omega) (by omega)⟩
theorem impl_crash (S : List ByteArray) (C : List IPut) (K : List Int) (t : Int) (hS : S.length ≤ 1099511627776) (hC : C.length ≤ 1099511627776) : Ev (fun k => impl_CrashDisk.f k S C K t) (crashM S C K t) := by
  unfold impl_CrashDisk.f crashM
  refine ev_cbind (impl_copy S C hS hC) (ev_bind (impl_diskOk S C hS hC) (ev_if (fun h => ?_) (fun h => ?_)))
  · rw [if_pos h]
    have hg := (diskOk_iff S C).1 h
    refine impl_crash0 K t S C S hC _ (fun last hl => ?_) C.length 0 (-1) (by omega) rfl
    refine ev_step ?_
    simp only [impl_CrashDisk.j1]
    rw [← hl]
    exact impl_crash1 K last (tearM t) C (tearM_in t) S.length hC hg.2.2.2.2 C [] S rfl rfl hg.2.2.2.1
  · rw [if_neg h]; exact Ev.now _
theorem spec_crash (S : List ByteArray) (C : List IPut) (K : List Int) (t : Int) (hS : S.length ≤ 1099511627776) (hC : C.length ≤ 1099511627776) : Ev (fun k => spec_CrashDisk.f k S C K t) (crashM S C K t) := by
  unfold spec_CrashDisk.f crashM
  refine ev_cbind (spec_copy S C hS hC) (ev_bind (spec_diskOk S C hS hC) (ev_if (fun h => ?_) (fun h => ?_)))
  · rw [if_pos h]
    have hg := (diskOk_iff S C).1 h
    refine spec_crash0 K t S C S C hC _ (fun last hl => ?_) C.length 0 (-1) (by omega) rfl
    rw [← hl]
    have hf := last_facts K C.length
    rw [← hl] at hf
    exact spec_crash1 K last (tearM t) S C C (tearM_in t) S.length hC hg.2.2.2.2 hf.2.1 hf.1 hf.2.2.1 hf.2.2.2 C [] S rfl rfl hg.2.2.2.1
  · rw [if_neg h]; exact Ev.now _
theorem crash_lens (S : List ByteArray) (C : List IPut) (K : List Int) (t : Int) : (crashM S C K t).1.length = S.length ∧ (crashM S C K t).2.length ≤ C.length := by
  have h : ∀ (last n : Int) (rest : List IPut) (i : Nat) (A : List ByteArray), (crashC K last n i rest A).length = A.length := by
    intro last n rest
    induction rest with
    | nil => intro i A; rfl
    | cons p rest ih =>
      intro i A
      rw [crashC, ih]
      unfold stepC
      split
      · simp
      · split <;> simp
  unfold crashM
  split
  · exact ⟨h _ _ _ _ _, by simp⟩
  · exact ⟨rfl, Nat.le_refl _⟩

theorem FnExactCrashDisk (l0_0 : List ByteArray) (l0_1 : List LPut) (l1 : List Int) (a2 : Int) : l0_0.length ≤ 9223372036854775807 → (∀ x ∈ l0_0, x.size ≤ 9223372036854775807) → l0_1.length ≤ 9223372036854775807 → (∀ x ∈ l0_1, (Lit.int .i64 x.f0).wf = true ∧ x.f1.size ≤ 9223372036854775807) → l1.length ≤ 9223372036854775807 → (∀ x ∈ l1, (Lit.int .i64 x).wf = true) → (Lit.int .i64 a2).wf = true → ∃ k, laws_FnExactCrashDisk.f k l0_0 l0_1 l1 a2 = some true := by
  intro hS hs hC hp hL _ _
  refine ev_at ?_
  unfold laws_FnExactCrashDisk.f
  by_cases c0 : (l1.length : Int) > 1048576
  · exact ev_pos c0 (Ev.now _)
  obtain ⟨t, ht, hq⟩ := szDisk_ok l0_0 l0_1 1048576 hS hs hC (fun p hm => (hp p hm).2) (by omega) (by omega)
  refine ev_neg c0 (ev_bind ht ?_)
  rcases hq with hq | ⟨q1, q2, q3, q4, q5, q6⟩
  · exact ev_pos hq (Ev.now _)
  · have hd := toDisk_ok l0_0 l0_1 q3 q5
    have hm : (l0_1.map toIPut).length = l0_1.length := by simp
    generalize l0_1.map toIPut = C at hd hm
    have a3 := eqDisk_same l0_0 C (by omega) (by omega)
    have b1 := spec_crash l0_0 C l1 a2 (by omega) (by omega)
    have b2 := impl_crash l0_0 C l1 a2 (by omega) (by omega)
    have hl := crash_lens l0_0 C l1 a2
    generalize crashM l0_0 C l1 a2 = r at b1 b2 hl
    obtain ⟨r1, r2⟩ := r
    have hl1 : r1.length = l0_0.length := hl.1
    have hl2 : r2.length ≤ C.length := hl.2
    have c3 := eqDisk_same r1 r2 (by omega) (by omega)
    have hi1 := toIntS_ok l1 (by omega)
    have hi2 := eqIntS_same l1 (by omega)
    obtain ⟨m1, S1, C1, e1, p1, p2, _⟩ := disk_marked l0_0 C (by omega) (by omega)
    obtain ⟨L1, hm1⟩ := markIntS_ok l1 m1 (by omega) p1 p2
    obtain ⟨m2, S2, C2, e2, p3, _, f2⟩ := disk_marked r1 r2 (by omega) (by omega)
    refine ev_neg (by omega) (ev_bind hd (ev_bind hi1 (ev_bind b1 (ev_bind hd (ev_bind hi1 (ev_bind b2 (ev_bind c3 (ev_pos rfl (ev_bind hd (ev_bind a3 (ev_pos rfl (ev_bind hi1 (ev_bind hi2 (ev_pos rfl (ev_bind e1 (ev_bind hm1 (ev_neg (by show ¬ m1 + (l1.length : Int) < 0; omega) (ev_bind c3 (ev_step ?_)))))))))))))))))))
    simp only [laws_FnExactCrashDisk.j0]
    exact ev_neg (by simp) (ev_bind e2 (ev_bind f2 (ev_neg (by omega) (ev_pos rfl (ev_bind hd (ev_bind hi1 (ev_bind b2 (ev_bind c3 (ev_pos rfl (ev_bind f2 (ev_neg (by omega) (ev_pos rfl (Ev.now _)))))))))))))

end Go.Proofs.Ytfgjhfoljeaiiaa.Pure
