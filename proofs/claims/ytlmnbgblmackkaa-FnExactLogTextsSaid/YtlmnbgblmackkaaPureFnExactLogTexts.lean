/- The law FnExactLogTexts answers true at every disk. Conditions: lengths and sizes as the row gives them. -/
import Derived.Test.YtlmnbgblmackkaaQFnExactLogTextsx9
import Derived.Test.YtlmnbgblmackkaaAid
namespace Go.Proofs.Ytlmnbgblmackkaa.Pure
open Go.RowKit Go.Proofs.Ytlmnbgblmackkaa.QFnExactLogTexts Go.Proofs.YtlmnbgblmackkaaW.PrintWords Go.Proofs.YtlmnbgblmackkaaW.PrintLast Go.Proofs.Ytlmnbgblmackkaa.Aid

abbrev IPut := S88
abbrev LPut := S95
/-! what the laws' own helpers tell: sizes -/
theorem szStringS_l (l : List ByteArray) (hl : l.length ≤ 9223372036854775807) (hs : ∀ s ∈ l, s.size ≤ 9223372036854775807) : ∀ (rest pre : List ByteArray) (left : Int), l = pre ++ rest → 0 ≤ left → left ≤ 1048576 →
    ∃ t, Ev (fun k => laws_szStringS.l0 k l left (pre.length : Int)) t ∧ (t < 0 ∨ (0 ≤ t ∧ t ≤ left ∧ ∀ s ∈ rest, s.size ≤ 1048576)) := by
  intro rest
  induction rest with
  | nil =>
    intro pre left e h0 h1
    refine ⟨left, ev_step ?_, .inr ⟨h0, Int.le_refl _, by simp⟩⟩
    simp only [laws_szStringS.l0]
    exact ev_neg (by rw [e]; simp) (Ev.now _)
  | cons x rest ih =>
    intro pre left e h0 h1
    have hx : x.size ≤ 9223372036854775807 := hs x (by rw [e]; simp)
    have hg : rdOf ByteArray.empty l (pre.length : Int) = x := by unfold rdOf; rw [Int.toNat_natCast, e, getD_mid]
    have hlt : (pre.length : Int) < (l.length : Int) := by rw [e]; exact len_mid _ _ _
    have hw : wrap64 (left - (x.size : Int)) = left - (x.size : Int) := w64 (by omega) (by omega)
    by_cases c : left - (x.size : Int) < 0
    · refine ⟨-1, ev_step ?_, .inl (by omega)⟩
      simp only [laws_szStringS.l0]
      rw [hg, hw]
      exact ev_pos hlt (ev_pos (by omega) (ev_pos c (Ev.now _)))
    · obtain ⟨t, ht, hq⟩ := ih (pre ++ [x]) (left - (x.size : Int)) (by simp [e]) (by omega) (by omega)
      refine ⟨t, ev_step ?_, ?_⟩
      · simp only [laws_szStringS.l0]
        rw [hg, hw, next64 _ (by have := hl; omega)]
        rw [List.length_append, List.length_singleton] at ht
        exact ev_pos hlt (ev_pos (by omega) (ev_neg c ht))
      · rcases hq with hq | ⟨q1, q2, q3⟩
        · exact .inl hq
        · refine .inr ⟨q1, by omega, ?_⟩
          intro s hs2
          rcases List.mem_cons.1 hs2 with rfl | hs2
          · omega
          · exact q3 s hs2
theorem szStringS_ok (l : List ByteArray) (left : Int) (hl : l.length ≤ 9223372036854775807) (hs : ∀ s ∈ l, s.size ≤ 9223372036854775807) (h0 : 0 ≤ left) (h1 : left ≤ 1048576) :
    ∃ t, Ev (fun k => laws_szStringS.f k l left) t ∧ (t < 0 ∨ (0 ≤ t ∧ t ≤ left ∧ l.length ≤ 1048576 ∧ ∀ s ∈ l, s.size ≤ 1048576)) := by
  unfold laws_szStringS.f
  have hw : wrap64 (left - (l.length : Int)) = left - (l.length : Int) := w64 (by omega) (by omega)
  rw [hw]
  by_cases c : left - (l.length : Int) < 0
  · exact ⟨-1, ev_pos c (Ev.now _), .inl (by omega)⟩
  · obtain ⟨t, ht, hq⟩ := szStringS_l l hl hs l [] (left - (l.length : Int)) rfl (by omega) (by omega)
    refine ⟨t, ev_neg c ht, ?_⟩
    rcases hq with hq | ⟨q1, q2, q3⟩
    · exact .inl hq
    · exact .inr ⟨q1, by omega, by omega, q3⟩
theorem szPutS_l (l : List LPut) (hl : l.length ≤ 9223372036854775807) (hs : ∀ p ∈ l, p.f1.size ≤ 9223372036854775807) : ∀ (rest pre : List LPut) (left : Int), l = pre ++ rest → 0 ≤ left → left ≤ 1048576 →
    ∃ t, Ev (fun k => laws_szPutS.l0 k l left (pre.length : Int)) t ∧ (t < 0 ∨ (0 ≤ t ∧ t ≤ left ∧ ∀ p ∈ rest, p.f1.size ≤ 1048576)) := by
  intro rest
  induction rest with
  | nil =>
    intro pre left e h0 h1
    refine ⟨left, ev_step ?_, .inr ⟨h0, Int.le_refl _, by simp⟩⟩
    simp only [laws_szPutS.l0]
    exact ev_neg (by rw [e]; simp) (Ev.now _)
  | cons x rest ih =>
    intro pre left e h0 h1
    have hx : x.f1.size ≤ 9223372036854775807 := hs x (by rw [e]; simp)
    have hg : rd_T95 l (pre.length : Int) = x := by unfold rd_T95; rw [Int.toNat_natCast, e, getD_mid]
    have hlt : (pre.length : Int) < (l.length : Int) := by rw [e]; exact len_mid _ _ _
    have hw : wrap64 (left - (x.f1.size : Int)) = left - (x.f1.size : Int) := w64 (by omega) (by omega)
    by_cases c : left - (x.f1.size : Int) < 0
    · have hp : laws_szPut.f x.f0 x.f1 left = some (-1) := by unfold laws_szPut.f; rw [hw, if_pos c]
      refine ⟨-1, ev_step ?_, .inl (by omega)⟩
      simp only [laws_szPutS.l0]
      rw [hg]
      exact ev_pos hlt (ev_pos (by omega) (ev_cbind hp (ev_pos (by omega) (Ev.now _))))
    · have hp : laws_szPut.f x.f0 x.f1 left = some (left - (x.f1.size : Int)) := by unfold laws_szPut.f; rw [hw, if_neg c]
      obtain ⟨t, ht, hq⟩ := ih (pre ++ [x]) (left - (x.f1.size : Int)) (by simp [e]) (by omega) (by omega)
      refine ⟨t, ev_step ?_, ?_⟩
      · simp only [laws_szPutS.l0]
        rw [hg, next64 _ (by have := hl; omega)]
        rw [List.length_append, List.length_singleton] at ht
        exact ev_pos hlt (ev_pos (by omega) (ev_cbind hp (ev_neg c ht)))
      · rcases hq with hq | ⟨q1, q2, q3⟩
        · exact .inl hq
        · refine .inr ⟨q1, by omega, ?_⟩
          intro s hs2
          rcases List.mem_cons.1 hs2 with rfl | hs2
          · omega
          · exact q3 s hs2
theorem szPutS_ok (l : List LPut) (left : Int) (hl : l.length ≤ 9223372036854775807) (hs : ∀ p ∈ l, p.f1.size ≤ 9223372036854775807) (h0 : 0 ≤ left) (h1 : left ≤ 1048576) :
    ∃ t, Ev (fun k => laws_szPutS.f k l left) t ∧ (t < 0 ∨ (0 ≤ t ∧ t ≤ left ∧ l.length ≤ 1048576 ∧ ∀ p ∈ l, p.f1.size ≤ 1048576)) := by
  unfold laws_szPutS.f
  have hw : wrap64 (left - (l.length : Int)) = left - (l.length : Int) := w64 (by omega) (by omega)
  rw [hw]
  by_cases c : left - (l.length : Int) < 0
  · exact ⟨-1, ev_pos c (Ev.now _), .inl (by omega)⟩
  · obtain ⟨t, ht, hq⟩ := szPutS_l l hl hs l [] (left - (l.length : Int)) rfl (by omega) (by omega)
    refine ⟨t, ev_neg c ht, ?_⟩
    rcases hq with hq | ⟨q1, q2, q3⟩
    · exact .inl hq
    · exact .inr ⟨q1, by omega, by omega, q3⟩
theorem szDisk_ok (S : List ByteArray) (C : List LPut) (left : Int) (hS : S.length ≤ 9223372036854775807) (hs : ∀ s ∈ S, s.size ≤ 9223372036854775807) (hC : C.length ≤ 9223372036854775807) (hp : ∀ p ∈ C, p.f1.size ≤ 9223372036854775807) (h0 : 0 ≤ left) (h1 : left ≤ 1048576) :
    ∃ t, Ev (fun k => laws_szDisk.f k S C left) t ∧ (t < 0 ∨ (0 ≤ t ∧ t ≤ left ∧ S.length ≤ 1048576 ∧ (∀ s ∈ S, s.size ≤ 1048576) ∧ C.length ≤ 1048576 ∧ ∀ p ∈ C, p.f1.size ≤ 1048576)) := by
  unfold laws_szDisk.f
  obtain ⟨t, ht, hq⟩ := szStringS_ok S left hS hs h0 h1
  rcases hq with hq | ⟨q1, q2, q3, q4⟩
  · exact ⟨-1, ev_bind ht (ev_pos hq (Ev.now _)), .inl (by omega)⟩
  · obtain ⟨u, hu, hr⟩ := szPutS_ok C t hC hp q1 (by omega)
    rcases hr with hr | ⟨r1, r2, r3, r4⟩
    · exact ⟨-1, ev_bind ht (ev_neg (by omega) (ev_bind hu (ev_pos hr (Ev.now _)))), .inl (by omega)⟩
    · exact ⟨u, ev_bind ht (ev_neg (by omega) (ev_bind hu (ev_neg (by omega) (Ev.now _)))), .inr ⟨r1, by omega, q3, q4, r3, r4⟩⟩
/-! copies -/
theorem toStringS_l (l : List ByteArray) (hl : l.length ≤ 1048576) : ∀ (rest pre : List ByteArray), l = pre ++ rest → Ev (fun k => laws_toStringS.l0 k l (pre ++ List.replicate rest.length (⟨#[]⟩ : ByteArray)) (pre.length : Int)) l := by
  intro rest
  induction rest with
  | nil =>
    intro pre e
    refine ev_step ?_
    simp only [laws_toStringS.l0]
    exact ev_neg (by rw [e]; simp) (ev_now (by rw [e]; simp))
  | cons x rest ih =>
    intro pre e
    refine ev_step ?_
    simp only [laws_toStringS.l0]
    have hg : rdOf ByteArray.empty l (pre.length : Int) = x := by unfold rdOf; rw [Int.toNat_natCast, e, getD_mid]
    have hlt : (pre.length : Int) < (l.length : Int) := by rw [e]; exact len_mid _ _ _
    have h := ih (pre ++ [x]) (by simp [e])
    rw [List.length_append, List.length_singleton] at h
    rw [hg, next64 _ (by omega), Int.toNat_natCast, List.length_cons, List.replicate_succ, set_mid]
    refine ev_pos hlt (ev_pos (by omega) (ev_pos (by simp; omega) ?_))
    rw [List.append_assoc] at h
    exact h
theorem toStringS_ok (l : List ByteArray) (hl : l.length ≤ 1048576) : Ev (fun k => laws_toStringS.f k l) l := by
  unfold laws_toStringS.f
  rw [Int.toNat_natCast]
  exact ev_pos (by omega) (ev_pos (by omega) (toStringS_l l hl l [] rfl))
def toIPut (x : LPut) : IPut := ⟨x.f0, x.f1⟩
theorem toPutS_l (l : List LPut) (hl : l.length ≤ 1048576) : ∀ (rest pre : List LPut), l = pre ++ rest → Ev (fun k => laws_toPutS.l0 k l (pre.map toIPut ++ List.replicate rest.length z88) (pre.length : Int)) (l.map toIPut) := by
  intro rest
  induction rest with
  | nil =>
    intro pre e
    refine ev_step ?_
    simp only [laws_toPutS.l0]
    exact ev_neg (by rw [e]; simp) (ev_now (by rw [e]; simp))
  | cons x rest ih =>
    intro pre e
    refine ev_step ?_
    simp only [laws_toPutS.l0]
    have hg : rd_T95 l (pre.length : Int) = x := by unfold rd_T95; rw [Int.toNat_natCast, e, getD_mid]
    have hlt : (pre.length : Int) < (l.length : Int) := by rw [e]; exact len_mid _ _ _
    have h := ih (pre ++ [x]) (by simp [e])
    rw [List.length_append, List.length_singleton] at h
    have hm : (pre.map toIPut).length = pre.length := by simp
    rw [hg, next64 _ (by omega), Int.toNat_natCast, List.length_cons, List.replicate_succ]
    refine ev_pos hlt (ev_pos (by omega) (ev_cbind rfl (ev_pos (by simp; omega) ?_)))
    rw [← hm, set_mid, hm]
    rw [List.map_append, List.append_assoc] at h
    exact h
theorem toPutS_ok (l : List LPut) (hl : l.length ≤ 1048576) : Ev (fun k => laws_toPutS.f k l) (l.map toIPut) := by
  unfold laws_toPutS.f
  rw [Int.toNat_natCast]
  exact ev_pos (by omega) (ev_pos (by omega) (toPutS_l l hl l [] rfl))
theorem toDisk_ok (S : List ByteArray) (C : List LPut) (hS : S.length ≤ 1048576) (hC : C.length ≤ 1048576) : Ev (fun k => laws_toDisk.f k S C) (S, C.map toIPut) := by
  unfold laws_toDisk.f
  exact ev_bind (toStringS_ok S hS) (ev_bind (toPutS_ok C hC) (Ev.now _))
/-! a list is as itself -/
theorem eqStringS_l (l : List ByteArray) (hl : l.length ≤ 9223372036854775800) : ∀ (rest pre : List ByteArray), l = pre ++ rest → Ev (fun k => laws_eqStringS.l0 k l l (pre.length : Int)) true := by
  intro rest
  induction rest with
  | nil =>
    intro pre e
    refine ev_step ?_
    simp only [laws_eqStringS.l0]
    exact ev_neg (by rw [e]; simp) (Ev.now _)
  | cons x rest ih =>
    intro pre e
    refine ev_step ?_
    simp only [laws_eqStringS.l0]
    have hlt : (pre.length : Int) < (l.length : Int) := by rw [e]; exact len_mid _ _ _
    have h := ih (pre ++ [x]) (by simp [e])
    rw [List.length_append, List.length_singleton] at h
    rw [next64 _ (by omega)]
    exact ev_pos hlt (ev_pos (by omega) (ev_pos hlt (ev_pos (by first | rfl | trivial) h)))
theorem eqStringS_same (l : List ByteArray) (hl : l.length ≤ 9223372036854775800) : Ev (fun k => laws_eqStringS.f k l l) true := by
  unfold laws_eqStringS.f
  exact ev_pos rfl (eqStringS_l l hl l [] rfl)
theorem eqPut_same (x : IPut) : laws_eqPut.f x.f0 x.f1 x.f0 x.f1 = some true := by unfold laws_eqPut.f; rw [if_pos rfl, if_pos rfl]
theorem eqPutS_l (l : List IPut) (hl : l.length ≤ 9223372036854775800) : ∀ (rest pre : List IPut), l = pre ++ rest → Ev (fun k => laws_eqPutS.l0 k l l (pre.length : Int)) true := by
  intro rest
  induction rest with
  | nil =>
    intro pre e
    refine ev_step ?_
    simp only [laws_eqPutS.l0]
    exact ev_neg (by rw [e]; simp) (Ev.now _)
  | cons x rest ih =>
    intro pre e
    refine ev_step ?_
    simp only [laws_eqPutS.l0]
    have hlt : (pre.length : Int) < (l.length : Int) := by rw [e]; exact len_mid _ _ _
    have h := ih (pre ++ [x]) (by simp [e])
    rw [List.length_append, List.length_singleton] at h
    rw [next64 _ (by omega)]
    exact ev_pos hlt (ev_pos (by omega) (ev_pos hlt (ev_cbind (eqPut_same _) (ev_pos rfl h))))
theorem eqPutS_same (l : List IPut) (hl : l.length ≤ 9223372036854775800) : Ev (fun k => laws_eqPutS.f k l l) true := by
  unfold laws_eqPutS.f
  exact ev_pos rfl (eqPutS_l l hl l [] rfl)
theorem eqDisk_same (S : List ByteArray) (C : List IPut) (hS : S.length ≤ 9223372036854775800) (hC : C.length ≤ 9223372036854775800) : Ev (fun k => laws_eqDisk.f k S C S C) true := by
  unfold laws_eqDisk.f
  exact ev_bind (eqStringS_same S hS) (ev_pos rfl (ev_bind (eqPutS_same C hC) (ev_pos rfl (Ev.now _))))

/-! marks -/
theorem markText_l : ∀ (n : Nat) (acc : ByteArray), acc.size + n ≤ 4611686018427387904 → ∃ r, Ev (fun k => laws_markText.l0 k (n : Int) acc) r := by
  intro n
  induction n using Nat.strongRecOn with
  | _ n ih =>
    intro acc hb
    by_cases h : n = 0
    · subst h
      refine ⟨(⟨#[109]⟩ : ByteArray) ++ acc, ev_step ?_⟩
      simp only [laws_markText.l0]
      exact ev_neg (by omega) (ev_pos (by omega) (Ev.now _))
    · have e1 : wrap64 (Int.tdiv (n : Int) 10) = ((n / 10 : Nat) : Int) := by
        rw [show Int.tdiv (n : Int) 10 = ((n / 10 : Nat) : Int) from rfl, w64 (by omega) (by omega)]
      obtain ⟨r, hr⟩ := ih (n / 10) (by omega) (strOfNums [(wrap64 (48 + (Int.tmod (n : Int) 10))) % 256] ++ acc) (by rw [ByteArray.size_append, strOfNums_size]; simp; omega)
      refine ⟨r, ev_step ?_⟩
      simp only [laws_markText.l0]
      rw [e1]
      exact ev_pos (by omega) (ev_cbind rfl (ev_pos (by rw [strOfNums_size]; simp; omega) hr))
theorem markText_ok (n : Int) (h : n ≤ 4611686018427387904) : ∃ r, Ev (fun k => laws_markText.f k n) r := by
  unfold laws_markText.f
  by_cases c : n ≤ 0
  · exact ⟨_, ev_pos c (Ev.now _)⟩
  · obtain ⟨r, hr⟩ := markText_l n.toNat (⟨#[]⟩ : ByteArray) (by show 0 + n.toNat ≤ _; omega)
    rw [Int.toNat_of_nonneg (by omega)] at hr
    exact ⟨r, ev_neg c hr⟩
open Classical in
noncomputable def markT (n : Int) : ByteArray := if h : ∃ r, Ev (fun k => laws_markText.f k n) r then Classical.choose h else ByteArray.empty
theorem markT_ev (n : Int) (h : n ≤ 4611686018427387904) : Ev (fun k => laws_markText.f k n) (markT n) := by
  unfold markT
  rw [dif_pos (markText_ok n h)]
  exact Classical.choose_spec (markText_ok n h)
noncomputable def markL (a : Int) : Nat → List ByteArray
  | 0 => []
  | n + 1 => markT a :: markL (a + 1) n
theorem markL_length (a : Int) (n : Nat) : (markL a n).length = n := by
  induction n generalizing a with
  | zero => rfl
  | succ n ih => simp [markL, ih]
theorem markStringS_l : ∀ (rest pre : List ByteArray) (a : Int), 0 ≤ a → pre.length + rest.length ≤ 1099511627776 → a + rest.length ≤ 4611686018427387900 →
    Ev (fun k => laws_markStringS.l0 k (pre ++ rest) a (pre.length : Int)) (a + rest.length, pre ++ markL a rest.length) := by
  intro rest
  induction rest with
  | nil =>
    intro pre a h0 h1 h2
    refine ev_step ?_
    simp only [laws_markStringS.l0]
    exact ev_neg (by simp) (ev_now (by simp [markL]))
  | cons x rest ih =>
    intro pre a h0 h1 h2
    rw [List.length_cons] at h1 h2
    have h := ih (pre ++ [markT a]) (a + 1) (by omega) (by simp; omega) (by omega)
    rw [List.length_append, List.length_singleton] at h
    refine ev_step ?_
    simp only [laws_markStringS.l0]
    rw [next64 _ (by omega), Int.toNat_natCast, w64 (x := a + 1) (by omega) (by omega)]
    refine ev_pos (len_mid _ _ _) (ev_bind (markT_ev a (by omega)) (ev_pos (by omega) ?_))
    rw [set_mid]
    rw [List.append_assoc, List.append_assoc] at h
    refine ev_eq h ?_
    rw [List.length_cons]
    simp only [markL]
    refine Prod.ext (by simp; omega) rfl
theorem heldStringS_l : ∀ (n : Nat) (pre : List ByteArray) (a : Int), 0 ≤ a → pre.length + n ≤ 1099511627776 → a + n ≤ 4611686018427387900 →
    Ev (fun k => laws_heldStringS.l0 k (pre ++ markL a n) a (pre.length : Int)) (a + n) := by
  intro n
  induction n with
  | zero =>
    intro pre a h0 h1 h2
    refine ev_step ?_
    simp only [laws_heldStringS.l0]
    exact ev_neg (by simp [markL]) (ev_now (by simp))
  | succ n ih =>
    intro pre a h0 h1 h2
    have h := ih (pre ++ [markT a]) (a + 1) (by omega) (by simp; omega) (by omega)
    rw [List.length_append, List.length_singleton, List.append_assoc] at h
    refine ev_step ?_
    simp only [laws_heldStringS.l0]
    have hg : rdOf ByteArray.empty (pre ++ markL a (n + 1)) (pre.length : Int) = markT a := by unfold rdOf; simp only [markL]; rw [Int.toNat_natCast, getD_mid]
    rw [next64 _ (by omega), w64 (x := a + 1) (by omega) (by omega), hg]
    refine ev_pos (by simp only [markL]; exact len_mid _ _ _) (ev_pos (by omega) (ev_bind (markT_ev a (by omega)) (ev_pos rfl (ev_eq h (by omega)))))
theorem strings_marked (S : List ByteArray) (hS : S.length ≤ 1099511627776) : ∃ m S', Ev (fun k => laws_markStringS.f k S 1) (m, S') ∧ 0 ≤ m ∧ Ev (fun k => laws_heldStringS.f k S' 1) m := by
  refine ⟨1 + S.length, markL 1 S.length, ?_, by omega, ?_⟩
  · unfold laws_markStringS.f
    exact markStringS_l S [] 1 (by omega) (by simp; omega) (by omega)
  · unfold laws_heldStringS.f
    exact heldStringS_l S.length [] 1 (by omega) (by simp; omega) (by omega)

noncomputable def markPL (a : Int) : Nat → List IPut
  | 0 => []
  | n + 1 => (⟨a, markT (a + 1)⟩ : IPut) :: markPL (a + 2) n
theorem markPutS_l : ∀ (rest pre : List IPut) (a : Int), 0 ≤ a → pre.length + rest.length ≤ 1099511627776 → a + 2 * rest.length ≤ 4611686018427387900 →
    Ev (fun k => laws_markPutS.l0 k (pre ++ rest) a (pre.length : Int)) (a + 2 * rest.length, pre ++ markPL a rest.length) := by
  intro rest
  induction rest with
  | nil =>
    intro pre a h0 h1 h2
    refine ev_step ?_
    simp only [laws_markPutS.l0]
    exact ev_neg (by simp) (ev_now (by simp [markPL]))
  | cons x rest ih =>
    intro pre a h0 h1 h2
    rw [List.length_cons] at h1 h2
    have h := ih (pre ++ [(⟨a, markT (a + 1)⟩ : IPut)]) (a + 2) (by omega) (by simp; omega) (by omega)
    rw [List.length_append, List.length_singleton] at h
    refine ev_step ?_
    simp only [laws_markPutS.l0]
    rw [next64 _ (by omega), Int.toNat_natCast, w64 (x := a + 1) (by omega) (by omega), w64 (x := a + 1 + 1) (by omega) (by omega)]
    refine ev_pos (len_mid _ _ _) (ev_pos (by omega) (ev_cbind (by rw [set_mid]) ?_))
    refine ev_bind (markT_ev (a + 1) (by omega)) ?_
    have hg : ∀ y : IPut, rd_T88 (pre ++ y :: rest) (pre.length : Int) = y := by intro y; unfold rd_T88; rw [Int.toNat_natCast, getD_mid]
    simp only [hg]
    rw [set_mid]
    rw [List.append_assoc, List.append_assoc] at h
    rw [show a + 1 + 1 = a + 2 from by omega]
    refine ev_eq h ?_
    rw [List.length_cons]
    simp only [markPL]
    refine Prod.ext (by simp; omega) rfl
/-- A disk is marked. -/
theorem disk_marks (S : List ByteArray) (C : List IPut) (hS : S.length ≤ 1099511627776) (hC : C.length ≤ 1099511627776) :
    ∃ m S' C', Ev (fun k => laws_markDisk.f k S C 1) (m, S', C') ∧ 0 ≤ m := by
  refine ⟨1 + S.length + 2 * C.length, markL 1 S.length, markPL (1 + S.length) C.length, ?_, by omega⟩
  unfold laws_markDisk.f laws_markStringS.f laws_markPutS.f
  exact ev_bind (markStringS_l S [] 1 (by omega) (by simp; omega) (by omega)) (ev_bind (markPutS_l C [] (1 + S.length) (by omega) (by simp; omega) (by omega)) (Ev.now _))

theorem within_val (a b c : Int) : impl_within.f a b c = some (decide (b ≤ a ∧ a ≤ c)) := by
  unfold impl_within.f
  by_cases h : a ≥ b
  · rw [if_pos h]; congr 1; simp; intro; exact h
  · rw [if_neg h]; congr 1; simp; intro h2; omega
theorem in_val (a b c : Int) : spec_l01In.f a b c = some (decide (b ≤ a ∧ a ≤ c)) := by
  unfold spec_l01In.f
  by_cases h : a ≥ b
  · rw [if_pos h]; congr 1; simp; intro; exact h
  · rw [if_neg h]; congr 1; simp; intro h2; omega

/-! a sector is read -/
def lastPut (C : List IPut) (i : Int) (d : ByteArray) : ByteArray := C.foldl (fun t p => if p.f0 = i then p.f1 else t) d
def readM (S : List ByteArray) (C : List IPut) (i : Int) : ByteArray × Bool := if 0 ≤ i ∧ i ≤ (S.length : Int) - 1 then (lastPut C i (S.getD i.toNat ByteArray.empty), true) else ((⟨#[]⟩ : ByteArray), false)
theorem impl_read0 (C : List IPut) (i : Int) (hC : C.length ≤ 1099511627776) : ∀ (rest pre : List IPut) (d : ByteArray), C = pre ++ rest →
    Ev (fun k => impl_ReadSector.l0 k i d C (C.length : Int) (pre.length : Int)) (lastPut rest i d, true) := by
  intro rest
  induction rest with
  | nil =>
    intro pre d e
    refine ev_step ?_
    simp only [impl_ReadSector.l0]
    exact ev_neg (by rw [e]; simp) (Ev.now _)
  | cons p rest ih =>
    intro pre d e
    have hg : rd_T88 C (pre.length : Int) = p := by unfold rd_T88; rw [Int.toNat_natCast, e, getD_mid]
    have hlt : (pre.length : Int) < (C.length : Int) := by rw [e]; exact len_mid _ _ _
    refine ev_step ?_
    simp only [impl_ReadSector.l0]
    rw [hg, next64 _ (by omega)]
    refine ev_pos hlt (ev_pos (by omega) (ev_pos hlt ?_))
    by_cases c : p.f0 = i
    · have h := ih (pre ++ [p]) p.f1 (by simp [e])
      rw [List.length_append, List.length_singleton] at h
      refine ev_pos c (ev_eq h ?_)
      unfold lastPut
      rw [List.foldl_cons, if_pos c]
    · have h := ih (pre ++ [p]) d (by simp [e])
      rw [List.length_append, List.length_singleton] at h
      refine ev_neg c (ev_eq h ?_)
      unfold lastPut
      rw [List.foldl_cons, if_neg c]
theorem impl_read (S : List ByteArray) (C : List IPut) (i : Int) (hS : S.length ≤ 1099511627776) (hC : C.length ≤ 1099511627776) : Ev (fun k => impl_ReadSector.f k S C i) (readM S C i) := by
  unfold impl_ReadSector.f readM
  rw [w64 (x := (S.length : Int) - 1) (by omega) (by omega)]
  refine ev_cbind (within_val _ _ _) ?_
  by_cases h : 0 ≤ i ∧ i ≤ (S.length : Int) - 1
  · rw [decide_eq_true h, if_pos h]
    exact ev_pos rfl (ev_pos h.1 (ev_pos (by omega) (impl_read0 C i hC C [] _ rfl)))
  · rw [decide_eq_false h, if_neg h]
    exact ev_neg (by simp) (Ev.now _)
theorem spec_read0 (S : List ByteArray) (C : List IPut) (i : Int) (hi : 0 ≤ i) (hi2 : i < (S.length : Int)) (hC : C.length ≤ 1099511627776) : ∀ (n : Nat), n ≤ C.length →
    Ev (fun k => spec_ReadSector.l0 k i ((n : Int) - 1) S C) (lastPut (C.take n) i (S.getD i.toNat ByteArray.empty), true) := by
  intro n
  induction n with
  | zero =>
    intro _
    refine ev_step ?_
    simp only [spec_ReadSector.l0]
    exact ev_neg (by omega) (ev_pos hi (ev_pos hi2 (Ev.now _)))
  | succ n ih =>
    intro hn
    have h := ih (by omega)
    have e : ((n + 1 : Nat) : Int) - 1 = (n : Int) := by omega
    refine ev_step ?_
    simp only [spec_ReadSector.l0]
    rw [e, w64 (x := (n : Int) - 1) (by omega) (by omega)]
    have hg : rd_T88 C (n : Int) = C[n]'(by omega) := by unfold rd_T88; rw [Int.toNat_natCast, List.getD_eq_getElem?_getD, List.getElem?_eq_getElem (by omega)]; rfl
    rw [hg]
    have ht : C.take (n + 1) = C.take n ++ [C[n]'(by omega)] := by rw [List.take_succ_eq_append_getElem (by omega)]
    refine ev_pos (by omega) (ev_pos (by omega) (ev_pos (by omega) ?_))
    rw [ht]
    unfold lastPut
    rw [List.foldl_append]
    simp only [List.foldl_cons, List.foldl_nil]
    by_cases c : (C[n]'(by omega)).f0 = i
    · rw [if_pos c]
      exact ev_pos c (Ev.now _)
    · rw [if_neg c]
      exact ev_neg c h
theorem spec_read (S : List ByteArray) (C : List IPut) (i : Int) (hS : S.length ≤ 1099511627776) (hC : C.length ≤ 1099511627776) : Ev (fun k => spec_ReadSector.f k S C i) (readM S C i) := by
  unfold spec_ReadSector.f readM
  rw [w64 (x := (S.length : Int) - 1) (by omega) (by omega), w64 (x := (C.length : Int) - 1) (by omega) (by omega)]
  refine ev_cbind (in_val _ _ _) ?_
  by_cases h : 0 ≤ i ∧ i ≤ (S.length : Int) - 1
  · rw [decide_eq_true h, if_pos h]
    refine ev_pos rfl (ev_eq (spec_read0 S C i h.1 (by omega) hC C.length (Nat.le_refl _)) ?_)
    rw [List.take_length]
  · rw [decide_eq_false h, if_neg h]
    exact ev_neg (by simp) (Ev.now _)

/-! the first byte of a sector -/
def firstM (S : List ByteArray) (C : List IPut) (i : Int) : Int := if (readM S C i).2 = true then (if (readM S C i).1.toList = ([] : List UInt8) then 0 else bt (readM S C i).1 0) else 0
theorem size_of_toList {s : ByteArray} (h : ¬ s.toList = ([] : List UInt8)) : 0 < s.size := by
  rcases Nat.eq_zero_or_pos s.size with h0 | h0
  · exfalso
    apply h
    have : s = ⟨#[]⟩ := by
      apply ByteArray.ext
      exact Array.eq_empty_of_size_eq_zero h0
    subst this
    rw [ByteArray.toList_eq]
  · exact h0
theorem firstM_range (S : List ByteArray) (C : List IPut) (i : Int) : 0 ≤ firstM S C i ∧ firstM S C i ≤ 255 := by
  unfold firstM
  split
  · split
    · omega
    · exact bt_range _ _
  · omega
theorem impl_first (S : List ByteArray) (C : List IPut) (i : Int) (hS : S.length ≤ 1099511627776) (hC : C.length ≤ 1099511627776) : Ev (fun k => impl_firstByte.f k S C i) (firstM S C i) := by
  unfold impl_firstByte.f firstM
  refine ev_bind (impl_read S C i hS hC) ?_
  refine ev_if (fun c => ?_) (fun c => ?_)
  · rw [if_pos c]
    refine ev_if (fun c2 => ?_) (fun c2 => ?_)
    · rw [if_pos c2]; exact Ev.now _
    · rw [if_neg c2]
      have h0 := size_of_toList c2
      have := bt_range (readM S C i).1 0
      exact ev_pos (by omega) (ev_now (w64 (by omega) (by omega)))
  · rw [if_neg c]; exact Ev.now _
theorem spec_first (S : List ByteArray) (C : List IPut) (i : Int) (hS : S.length ≤ 1099511627776) (hC : C.length ≤ 1099511627776) : Ev (fun k => spec_l04Byte.f k S C i) (firstM S C i) := by
  unfold spec_l04Byte.f firstM
  refine ev_bind (spec_read S C i hS hC) ?_
  refine ev_if (fun c => ?_) (fun c => ?_)
  · rw [if_pos c]
    refine ev_if (fun c2 => ?_) (fun c2 => ?_)
    · rw [if_pos c2]; exact Ev.now _
    · rw [if_neg c2]
      have h0 := size_of_toList c2
      have := bt_range (readM S C i).1 0
      exact ev_pos (by omega) (ev_now (w64 (by omega) (by omega)))
  · rw [if_neg c]; exact Ev.now _

def activeM (S : List ByteArray) (C : List IPut) : Int := Int.tmod (firstM S C 0) 2
theorem impl_active (S : List ByteArray) (C : List IPut) (hS : S.length ≤ 1099511627776) (hC : C.length ≤ 1099511627776) : Ev (fun k => impl_ActiveOf.f k S C) (activeM S C) := by
  unfold impl_ActiveOf.f
  exact ev_bind (impl_first S C 0 hS hC) (Ev.now _)
theorem spec_active (S : List ByteArray) (C : List IPut) (hS : S.length ≤ 1099511627776) (hC : C.length ≤ 1099511627776) : Ev (fun k => spec_ActiveOf.f k S C) (activeM S C) := by
  unfold spec_ActiveOf.f
  exact ev_bind (spec_first S C 0 hS hC) (Ev.now _)

def areaFirstM (a : Int) : Int := if 0 ≤ a ∧ a ≤ 1 then 1 + a * 48 else 0
theorem impl_areaFirst (a : Int) : impl_AreaFirst.f a = some (areaFirstM a) := by
  unfold impl_AreaFirst.f impl_isArea.f areaFirstM
  by_cases h0 : a = 0
  · subst h0; simp [wrap64]
  · by_cases h1 : a = 1
    · subst h1; simp [wrap64]
    · rw [if_neg h0, if_neg (show ¬ (0 ≤ a ∧ a ≤ 1) by omega)]; simp [h1]
theorem spec_areaFirst (a : Int) : spec_AreaFirst.f a = some (areaFirstM a) := by
  unfold spec_AreaFirst.f areaFirstM
  rw [in_val]
  by_cases h : 0 ≤ a ∧ a ≤ 1
  · rw [decide_eq_true h, if_pos h]
    simp only [Option.bind_some, if_true]
    rw [w64 (x := a * 48) (by omega) (by omega), w64 (by omega) (by omega)]
  · rw [decide_eq_false h, if_neg h]; simp
def countM (S : List ByteArray) (C : List IPut) (a : Int) : Int := if 0 ≤ a ∧ a ≤ 1 then firstM S C (areaFirstM a) else 0
theorem impl_count (S : List ByteArray) (C : List IPut) (a : Int) (hS : S.length ≤ 1099511627776) (hC : C.length ≤ 1099511627776) : Ev (fun k => impl_CountIn.f k S C a) (countM S C a) := by
  unfold impl_CountIn.f countM
  by_cases h : 0 ≤ a ∧ a ≤ 1
  · have e : impl_isArea.f a = some true := by
      unfold impl_isArea.f
      by_cases h0 : a = 0
      · rw [if_pos h0]
      · rw [if_neg h0]; simp; omega
    rw [if_pos h]
    exact ev_cbind e (ev_pos rfl (ev_cbind (impl_areaFirst a) (ev_bind (impl_first S C _ hS hC) (Ev.now _))))
  · have e : impl_isArea.f a = some false := by
      unfold impl_isArea.f
      rw [if_neg (by omega)]; simp; omega
    rw [if_neg h]
    exact ev_cbind e (ev_neg (by simp) (Ev.now _))
theorem spec_count (S : List ByteArray) (C : List IPut) (a : Int) (hS : S.length ≤ 1099511627776) (hC : C.length ≤ 1099511627776) : Ev (fun k => spec_CountIn.f k S C a) (countM S C a) := by
  unfold spec_CountIn.f countM
  refine ev_cbind (in_val _ _ _) ?_
  by_cases h : 0 ≤ a ∧ a ≤ 1
  · rw [decide_eq_true h, if_pos h]
    exact ev_pos rfl (ev_cbind (spec_areaFirst a) (ev_bind (spec_first S C _ hS hC) (Ev.now _)))
  · rw [decide_eq_false h, if_neg h]
    exact ev_neg (by simp) (Ev.now _)

/-! sectors, one behind the other -/
def secText (S : List ByteArray) (C : List IPut) (f : Int) : Nat → Int → ByteArray → ByteArray × Bool
  | 0, _, acc => (acc, true)
  | d + 1, i, acc => if (readM S C (f + i)).2 = true then secText S C f d (i + 1) (acc ++ (readM S C (f + i)).1) else ((⟨#[]⟩ : ByteArray), false)
def sectorTextM (S : List ByteArray) (C : List IPut) (f n : Int) : ByteArray × Bool := if 0 ≤ n ∧ n ≤ 100 then secText S C f n.toNat 0 (⟨#[]⟩ : ByteArray) else ((⟨#[]⟩ : ByteArray), false)
theorem lastPut_size (C : List IPut) (i : Int) (B : Nat) (hC : ∀ p ∈ C, p.f1.size ≤ B) : ∀ (d : ByteArray), d.size ≤ B → (lastPut C i d).size ≤ B := by
  unfold lastPut
  induction C with
  | nil => intro d hd; exact hd
  | cons p C ih =>
    intro d hd
    rw [List.foldl_cons]
    refine ih (fun q hq => hC q (by simp [hq])) _ ?_
    split
    · exact hC p (by simp)
    · exact hd
theorem readM_size (S : List ByteArray) (C : List IPut) (i : Int) (B : Nat) (hS : ∀ s ∈ S, s.size ≤ B) (hC : ∀ p ∈ C, p.f1.size ≤ B) : (readM S C i).1.size ≤ B := by
  unfold readM
  split
  · rename_i h
    refine lastPut_size C i B hC _ ?_
    rw [List.getD_eq_getElem?_getD, List.getElem?_eq_getElem (by omega)]
    exact hS _ (List.getElem_mem _)
  · exact Nat.zero_le _
theorem readM_wrap (S : List ByteArray) (C : List IPut) (f i : Int) (hS : S.length ≤ 1099511627776) (h0 : 0 ≤ i) (h1 : i ≤ 100) (hf : -9223372036854775808 ≤ f ∧ f < 9223372036854775808) : readM S C (wrap64 (f + i)) = readM S C (f + i) := by
  by_cases h : f + i < 9223372036854775808
  · rw [w64 (by omega) h]
  · have e : wrap64 (f + i) = f + i - 18446744073709551616 := by unfold wrap64; omega
    unfold readM
    rw [e, if_neg (by omega), if_neg (by omega)]
theorem impl_sec0 (S : List ByteArray) (C : List IPut) (f n : Int) (hS : S.length ≤ 1099511627776) (hC : C.length ≤ 1099511627776) (hf : -9223372036854775808 ≤ f ∧ f < 9223372036854775808) (hn : n ≤ 100) (hs : ∀ s ∈ S, s.size ≤ 1048576) (hp : ∀ p ∈ C, p.f1.size ≤ 1048576) :
    ∀ (d : Nat) (i : Int) (acc : List Int), 0 ≤ i → i + d = n → acc.length ≤ i.toNat * 1048576 → Ev (fun k => impl_SectorText.l0 k f n acc i S C) (secText S C f d i (strOfNums acc)) := by
  intro d
  induction d with
  | zero =>
    intro i acc h0 h1 h2
    refine ev_step ?_
    simp only [impl_SectorText.l0]
    exact ev_neg (by omega) (Ev.now _)
  | succ d ih =>
    intro i acc h0 h1 h2
    refine ev_step ?_
    simp only [impl_SectorText.l0]
    have hr := impl_read S C (wrap64 (f + i)) hS hC
    rw [readM_wrap S C f i hS h0 (by omega) hf] at hr
    have hsz := readM_size S C (f + i) 1048576 hs hp
    have e : wrap64 (i + 1) = i + 1 := w64 (by omega) (by omega)
    rw [e]
    refine ev_pos (by omega) (ev_bind hr ?_)
    unfold secText
    refine ev_if (fun c => ?_) (fun c => ?_)
    · rw [if_pos c]
      have h := ih (i + 1) (acc ++ bytesOf (readM S C (f + i)).1) (by omega) (by omega) (by
        have e1 : (i + 1).toNat = i.toNat + 1 := by omega
        rw [List.length_append, bytesOf_length, e1]; omega)
      rw [strOfNums_append, strOfNums_bytesOf] at h
      have e2 : i.toNat ≤ 100 := by omega
      have e3 : i.toNat * 1048576 ≤ 100 * 1048576 := Nat.mul_le_mul_right _ e2
      exact ev_pos (by omega) h
    · rw [if_neg c]; exact Ev.now _
theorem impl_sectorText (S : List ByteArray) (C : List IPut) (f n : Int) (hS : S.length ≤ 1099511627776) (hC : C.length ≤ 1099511627776) (hf : -9223372036854775808 ≤ f ∧ f < 9223372036854775808) (hs : ∀ s ∈ S, s.size ≤ 1048576) (hp : ∀ p ∈ C, p.f1.size ≤ 1048576) :
    Ev (fun k => impl_SectorText.f k S C f n) (sectorTextM S C f n) := by
  unfold impl_SectorText.f sectorTextM
  refine ev_cbind (within_val _ _ _) ?_
  by_cases h : 0 ≤ n ∧ n ≤ 100
  · rw [decide_eq_true h, if_pos h]
    exact ev_pos rfl (impl_sec0 S C f n hS hC hf h.2 hs hp n.toNat 0 [] (by omega) (by omega) (by simp))
  · rw [decide_eq_false h, if_neg h]
    exact ev_neg (by simp) (Ev.now _)
theorem spec_sec0 (S : List ByteArray) (C : List IPut) (f n : Int) (hS : S.length ≤ 1099511627776) (hC : C.length ≤ 1099511627776) (hf : -9223372036854775808 ≤ f ∧ f < 9223372036854775808) (hn : n ≤ 100) (hs : ∀ s ∈ S, s.size ≤ 1048576) (hp : ∀ p ∈ C, p.f1.size ≤ 1048576) :
    ∀ (d : Nat) (i : Int) (acc : ByteArray), 0 ≤ i → i + d = n → acc.size ≤ i.toNat * 1048576 → (i = 0 ∨ 0 ≤ f) → Ev (fun k => spec_SectorText.l0 k f n acc i S C) (secText S C f d i acc) := by
  intro d
  induction d with
  | zero =>
    intro i acc h0 h1 h2 h3
    refine ev_step ?_
    simp only [spec_SectorText.l0]
    exact ev_neg (by omega) (Ev.now _)
  | succ d ih =>
    intro i acc h0 h1 h2 h3
    refine ev_step ?_
    simp only [spec_SectorText.l0]
    have hr := spec_read S C (wrap64 (f + i)) hS hC
    rw [readM_wrap S C f i hS h0 (by omega) hf] at hr
    have hsz := readM_size S C (f + i) 1048576 hs hp
    have e : wrap64 (i + 1) = i + 1 := w64 (by omega) (by omega)
    refine ev_pos (by omega) ?_
    unfold secText
    have out : (f < 0 ∨ f > (S.length : Int)) → ¬ (readM S C (f + i)).2 = true := by
      intro ho
      have : ¬ (0 ≤ f + i ∧ f + i ≤ (S.length : Int) - 1) := by omega
      unfold readM
      rw [if_neg this]
      simp
    by_cases c1 : f < 0
    · refine ev_pos c1 (ev_step ?_)
      simp only [spec_SectorText.j1]
      refine ev_pos (by first | rfl | trivial) ?_
      rw [if_neg (out (.inl c1))]
      exact Ev.now _
    · refine ev_neg c1 (ev_step ?_)
      simp only [spec_SectorText.j1]
      by_cases c2 : f > (S.length : Int)
      · rw [decide_eq_true c2]
        refine ev_pos (by first | rfl | trivial) ?_
        rw [if_neg (out (.inr c2))]
        exact Ev.now _
      · rw [decide_eq_false c2, e]
        refine ev_neg (by simp) (ev_bind hr (ev_if (fun c => ?_) (fun c => ?_)))
        · rw [if_pos c]
          have h := ih (i + 1) (acc ++ (readM S C (f + i)).1) (by omega) (by omega) (by
            have e1 : (i + 1).toNat = i.toNat + 1 := by omega
            rw [ByteArray.size_append, e1]; omega) (.inr (by omega))
          have e2 : i.toNat ≤ 100 := by omega
          have e3 : i.toNat * 1048576 ≤ 100 * 1048576 := Nat.mul_le_mul_right _ e2
          exact ev_pos (by omega) h
        · rw [if_neg c]; exact Ev.now _
theorem spec_sectorText (S : List ByteArray) (C : List IPut) (f n : Int) (hS : S.length ≤ 1099511627776) (hC : C.length ≤ 1099511627776) (hf : -9223372036854775808 ≤ f ∧ f < 9223372036854775808) (hs : ∀ s ∈ S, s.size ≤ 1048576) (hp : ∀ p ∈ C, p.f1.size ≤ 1048576) :
    Ev (fun k => spec_SectorText.f k S C f n) (sectorTextM S C f n) := by
  unfold spec_SectorText.f sectorTextM
  refine ev_cbind (in_val _ _ _) ?_
  by_cases h : 0 ≤ n ∧ n ≤ 100
  · rw [decide_eq_true h, if_pos h]
    exact ev_pos rfl (spec_sec0 S C f n hS hC hf h.2 hs hp n.toNat 0 (⟨#[]⟩ : ByteArray) (by omega) (by omega) (by show 0 ≤ _; omega) (.inl rfl))
  · rw [decide_eq_false h, if_neg h]
    exact ev_neg (by simp) (Ev.now _)

/-- A number's bytes, seven bits each. -/
def varL (n : Nat) : List Int := if n > 127 then ((n % 128 + 128 : Nat) : Int) :: varL (n / 128) else [(n : Int)]
termination_by n
decreasing_by omega

def varText (n : Int) : ByteArray × Bool := if 0 ≤ n ∧ n ≤ 1000000000 then (strOfNums (varL n.toNat), true) else ((⟨#[]⟩ : ByteArray), false)
theorem spec_var0 : ∀ (n : Nat) (acc : List Int), acc.length + n < 140737488355000 → Ev (fun k => spec_l01Var.l0 k (n : Int) acc) (strOfNums (acc ++ varL n)) := by
  intro n
  induction n using Nat.strongRecOn with
  | _ n ih =>
    intro acc hb
    refine ev_step ?_
    simp only [spec_l01Var.l0]
    by_cases h : n > 127
    · refine ev_pos (by omega) (ev_pos (by omega) ?_)
      have e1 : wrap64 (Int.tdiv (n : Int) 128) = ((n / 128 : Nat) : Int) := by
        rw [show Int.tdiv (n : Int) 128 = ((n / 128 : Nat) : Int) from rfl, w64 (by omega) (by omega)]
      have e2 : (wrap64 ((Int.tmod (n : Int) 128) + 128)) % 256 = ((n % 128 + 128 : Nat) : Int) := by
        rw [show Int.tmod (n : Int) 128 = ((n % 128 : Nat) : Int) from rfl, w64 (by omega) (by omega)]; omega
      rw [e1, e2]
      have e3 : varL n = ((n % 128 + 128 : Nat) : Int) :: varL (n / 128) := by rw [varL, if_pos h]
      rw [e3]
      have := ih (n / 128) (by omega) (acc ++ [((n % 128 + 128 : Nat) : Int)]) (by simp; omega)
      rw [List.append_assoc] at this
      exact this
    · have e3 : varL n = [(n : Int)] := by rw [varL, if_neg h]
      have e4 : (n : Int) % 256 = (n : Int) := by omega
      rw [e3, e4]
      exact ev_neg (by omega) (ev_pos (by omega) (Ev.now _))

theorem impl_var0 : ∀ (n : Nat) (acc : List Int), acc.length + n < 140737488355000 → Ev (fun k => impl_VarText.l0 k (n : Int) acc) ((strOfNums (acc ++ varL n), true)) := by
  intro n
  induction n using Nat.strongRecOn with
  | _ n ih =>
    intro acc hb
    refine ev_step ?_
    simp only [impl_VarText.l0]
    by_cases h : n > 127
    · refine ev_pos (by omega) (ev_pos (by omega) ?_)
      have e1 : wrap64 (Int.tdiv (n : Int) 128) = ((n / 128 : Nat) : Int) := by
        rw [show Int.tdiv (n : Int) 128 = ((n / 128 : Nat) : Int) from rfl, w64 (by omega) (by omega)]
      have e2 : (wrap64 ((Int.tmod (n : Int) 128) + 128)) % 256 = ((n % 128 + 128 : Nat) : Int) := by
        rw [show Int.tmod (n : Int) 128 = ((n % 128 : Nat) : Int) from rfl, w64 (by omega) (by omega)]; omega
      rw [e1, e2]
      have e3 : varL n = ((n % 128 + 128 : Nat) : Int) :: varL (n / 128) := by rw [varL, if_pos h]
      rw [e3]
      have := ih (n / 128) (by omega) (acc ++ [((n % 128 + 128 : Nat) : Int)]) (by simp; omega)
      rw [List.append_assoc] at this
      exact this
    · have e3 : varL n = [(n : Int)] := by rw [varL, if_neg h]
      have e4 : (n : Int) % 256 = (n : Int) := by omega
      rw [e3, e4]
      exact ev_neg (by omega) (ev_pos (by omega) (Ev.now _))

theorem spec_var (n : Nat) (h : n ≤ 1000000000) : Ev (fun k => spec_l01Var.f k n) (strOfNums (varL n)) := spec_var0 n [] (by simp; omega)
theorem within_true {a b c : Int} (h : b ≤ a) (h2 : a ≤ c) : impl_within.f a b c = some true := by unfold impl_within.f; rw [if_pos h]; simp [h2]
theorem within_false {a b c : Int} (h : ¬ (b ≤ a ∧ a ≤ c)) : impl_within.f a b c = some false := by
  unfold impl_within.f
  by_cases h1 : a ≥ b
  · rw [if_pos h1]; simp; omega
  · rw [if_neg h1]
theorem impl_varText (n : Int) : Ev (fun k => impl_VarText.f k n) (varText n) := by
  unfold impl_VarText.f varText
  by_cases h : 0 ≤ n ∧ n ≤ 1000000000
  · rw [if_pos h]
    refine ev_cbind (within_true h.1 h.2) (ev_pos rfl ?_)
    have := impl_var0 n.toNat [] (by simp; omega)
    rw [Int.toNat_of_nonneg h.1] at this
    exact this
  · rw [if_neg h]
    exact ev_cbind (within_false h) (ev_neg (by simp) (Ev.now _))

theorem in_true {a b c : Int} (h : b ≤ a) (h2 : a ≤ c) : spec_l01In.f a b c = some true := by unfold spec_l01In.f; rw [if_pos h]; simp [h2]
theorem in_false {a b c : Int} (h : ¬ (b ≤ a ∧ a ≤ c)) : spec_l01In.f a b c = some false := by
  unfold spec_l01In.f
  by_cases h1 : a ≥ b
  · rw [if_pos h1]; simp; omega
  · rw [if_neg h1]
theorem toList_inj {a b : ByteArray} (h : a.toList = b.toList) : a = b := by
  rw [ByteArray.toList_eq, ByteArray.toList_eq] at h
  exact ByteArray.ext (Array.toList_inj.1 h)

/-! a number is read -/
theorem varL_range (n : Nat) : ∀ x ∈ varL n, 0 ≤ x ∧ x ≤ 255 := by
  induction n using Nat.strongRecOn with
  | _ n ih =>
    intro x hx
    rw [varL] at hx
    split at hx
    · rcases List.mem_cons.1 hx with rfl | hx
      · omega
      · exact ih (n / 128) (by omega) x hx
    · rw [List.mem_singleton] at hx
      subst hx; omega
/-- The value of bytes, seven bits each. -/
def valL : List Int → Nat
  | [] => 0
  | b :: l => b.toNat % 128 + 128 * valL l
/-- Bytes that go on, and a last one that doesn't. -/
def Chain : List Int → Prop
  | [] => False
  | [b] => 0 ≤ b ∧ b < 128
  | b :: c :: l => 128 ≤ b ∧ b ≤ 255 ∧ Chain (c :: l)
theorem varL_val : ∀ (l : List Int), Chain l → varL (valL l) = l ∨ (varL (valL l)).length < l.length
  | [], h => h.elim
  | [b], h => by
    left
    have h : 0 ≤ b ∧ b < 128 := h
    have e : valL [b] = b.toNat := by simp only [valL]; omega
    rw [e, varL, if_neg (by omega)]
    congr 1
    omega
  | b :: c :: l, h => by
    obtain ⟨h1, h2, h3⟩ := h
    have ih := varL_val (c :: l) h3
    have ev : valL (b :: c :: l) = b.toNat % 128 + 128 * valL (c :: l) := rfl
    rw [ev]
    generalize valL (c :: l) = v at ih
    by_cases hv : v = 0
    · right
      subst hv
      rw [varL, if_neg (by omega)]
      simp
    · have e1 : (b.toNat % 128 + 128 * v) / 128 = v := by omega
      have e2 : (((b.toNat % 128 + 128 * v) % 128 + 128 : Nat) : Int) = b := by omega
      rw [varL, if_pos (by omega), e1, e2]
      rcases ih with ih | ih
      · left; rw [ih]
      · right; simp at ih ⊢; omega
def bytesAt (s : ByteArray) (a m : Nat) : List Int := (List.range m).map fun (j : Nat) => bt s ((a + j : Nat) : Int)
theorem bt_nat (s : ByteArray) (i : Nat) (h : i < s.size) : bt s (i : Int) = ((s[i]'h).toNat : Int) := by
  unfold bt
  have e : ((i : Nat) : Int).toNat = i := Int.toNat_natCast i
  rw [dif_pos (by rw [e]; exact h)]
  simp only [e]
theorem extract_bytesAt (s : ByteArray) (a m : Nat) (h : a + m ≤ s.size) : s.extract a (a + m) = strOfNums (bytesAt s a m) := by
  apply ByteArray.ext
  apply Array.ext
  · rw [ByteArray.data_extract, Array.size_extract]
    show _ = (strOfNums (bytesAt s a m)).data.size
    have : (strOfNums (bytesAt s a m)).data.size = m := by show (strOfNums (bytesAt s a m)).size = m; rw [strOfNums_size]; simp [bytesAt]
    have h2 : s.data.size = s.size := rfl
    omega
  · intro i h1 h2
    have hz : (strOfNums (bytesAt s a m)).data.size = m := by show (strOfNums (bytesAt s a m)).size = m; rw [strOfNums_size]; simp [bytesAt]
    have hi : i < m := by rw [hz] at h2; exact h2
    have e : (strOfNums (bytesAt s a m)).data[i]'h2 = UInt8.ofNat (bt s ((a + i : Nat) : Int)).toNat := by
      unfold strOfNums bytesAt
      simp
    rw [e, bt_nat s (a + i) (by omega), Int.toNat_natCast, UInt8.ofNat_toNat]
    simp only [ByteArray.data_extract, Array.getElem_extract]
    rfl
theorem strOfNums_inj {a b : List Int} (ha : ∀ x ∈ a, 0 ≤ x ∧ x ≤ 255) (hb : ∀ x ∈ b, 0 ≤ x ∧ x ≤ 255) (h : strOfNums a = strOfNums b) : a = b := by
  have h2 : (strOfNums a).data.toList = (strOfNums b).data.toList := by rw [h]
  rw [strOfNums_data, strOfNums_data] at h2
  clear h
  induction a generalizing b with
  | nil =>
    cases b with
    | nil => rfl
    | cons y b => simp at h2
  | cons x a ih =>
    cases b with
    | nil => simp at h2
    | cons y b =>
      simp only [List.map_cons, List.cons.injEq] at h2
      have hx := ha x (by simp)
      have hy := hb y (by simp)
      have e : x.toNat = y.toNat := by
        have := congrArg UInt8.toNat h2.1
        rw [UInt8.toNat_ofNat', UInt8.toNat_ofNat'] at this
        omega
      rw [ih (fun z hz => ha z (by simp [hz])) (fun z hz => hb z (by simp [hz])) h2.2, show x = y by omega]
theorem bytesAt_range (s : ByteArray) (a m : Nat) : ∀ x ∈ bytesAt s a m, 0 ≤ x ∧ x ≤ 255 := by
  intro x hx
  obtain ⟨j, _, rfl⟩ := List.mem_map.1 hx
  exact bt_range _ _
/-- The walk over at most five bytes: d rounds are left, i bytes are behind, which are n. -/
def rv (s : ByteArray) (a : Nat) : Nat → Nat → Nat → Int × Int × Bool
  | 0, _, _ => (0, 0, false)
  | d + 1, i, n =>
    if a + i < s.size then
      if bt s ((a + i : Nat) : Int) < 128 then
        if n + (bt s ((a + i : Nat) : Int)).toNat % 128 * 128 ^ i ≤ 1000000000 ∧ (varL (n + (bt s ((a + i : Nat) : Int)).toNat % 128 * 128 ^ i)).length = i + 1 then (((n + (bt s ((a + i : Nat) : Int)).toNat % 128 * 128 ^ i : Nat) : Int), ((a + i + 1 : Nat) : Int), true) else (0, 0, false)
      else rv s a d (i + 1) (n + (bt s ((a + i : Nat) : Int)).toNat % 128 * 128 ^ i)
    else (0, 0, false)
def readVarM (s : ByteArray) (a : Int) : Int × Int × Bool := if 0 ≤ a ∧ a ≤ (s.size : Int) then rv s a.toNat 5 0 0 else (0, 0, false)
theorem pow5 (i : Nat) (h : i < 5) : 128 ^ i ≤ 268435456 := by
  have : i = 0 ∨ i = 1 ∨ i = 2 ∨ i = 3 ∨ i = 4 := by omega
  rcases this with rfl | rfl | rfl | rfl | rfl <;> first | decide | (unfold wrap64; decide)
theorem pow_next (i : Nat) (h : i < 5) : wrap64 (((128 ^ i : Nat) : Int) * 128) = ((128 ^ (i + 1) : Nat) : Int) := by
  have : i = 0 ∨ i = 1 ∨ i = 2 ∨ i = 3 ∨ i = 4 := by omega
  rcases this with rfl | rfl | rfl | rfl | rfl <;> first | decide | (unfold wrap64; decide)
theorem mul_small (x p : Nat) (hx : x < 128) (hp : p ≤ 268435456) : x * p ≤ 127 * 268435456 := Nat.mul_le_mul (by omega) hp
theorem shl_pow (x i : Nat) (hx : x < 128) (hi : i < 5) : shl .i64 (x : Int) ((7 * i : Nat) : Int) = ((x * 128 ^ i : Nat) : Int) := by
  have : i = 0 ∨ i = 1 ∨ i = 2 ∨ i = 3 ∨ i = 4 := by omega
  unfold shl IntKind.wrap
  rcases this with rfl | rfl | rfl | rfl | rfl <;> simp [IntKind.bits, IntKind.signed] <;> omega
theorem spec_var' (m : Nat) (hm : m ≤ 1000000000) : Ev (fun k => spec_l01Var.f k (m : Int)) (strOfNums (varL m)) := spec_var m hm
theorem impl_rv (s : ByteArray) (hs : s.size ≤ 140737488351232) (a : Nat) (ha : a ≤ s.size) : ∀ (d i n : Nat), d + i = 5 → n < 128 ^ i → Ev (fun k => impl_ReadVar.l0 k s (a : Int) (n : Int) (i : Int)) (rv s a d i n) := by
  intro d
  induction d with
  | zero =>
    intro i n hi hn
    refine ev_step ?_
    simp only [impl_ReadVar.l0]
    refine ev_neg (by omega) (ev_step ?_)
    simp only [impl_ReadVar.j1]
    exact ev_neg (by simp) (Ev.now _)
  | succ d ih =>
    intro i n hi hn
    have hp := pow5 i (by omega)
    refine ev_step ?_
    simp only [impl_ReadVar.l0]
    have e1 : wrap64 ((a : Int) + (i : Int)) = ((a + i : Nat) : Int) := by rw [w64 (by omega) (by omega)]; omega
    refine ev_pos (by omega) ?_
    rw [e1]
    refine ev_step ?_
    simp only [impl_ReadVar.j1]
    rw [rv]
    by_cases c1 : a + i < s.size
    · have hb := bt_range s ((a + i : Nat) : Int)
      have hc : wrap64 (bt s ((a + i : Nat) : Int)) = bt s ((a + i : Nat) : Int) := w64 (by omega) (by omega)
      have e2 : wrap64 (7 * (i : Int)) = ((7 * i : Nat) : Int) := by rw [w64 (by omega) (by omega)]; omega
      have e3 : Int.tmod (bt s ((a + i : Nat) : Int)) 128 = (((bt s ((a + i : Nat) : Int)).toNat % 128 : Nat) : Int) := by
        rw [Int.tmod_eq_emod_of_nonneg hb.1]; omega
      have hx : (bt s ((a + i : Nat) : Int)).toNat % 128 < 128 := by omega
      have hm := mul_small _ _ hx hp
      have e4 : wrap64 ((n : Int) + shl .i64 (((bt s ((a + i : Nat) : Int)).toNat % 128 : Nat) : Int) ((7 * i : Nat) : Int)) = ((n + (bt s ((a + i : Nat) : Int)).toNat % 128 * 128 ^ i : Nat) : Int) := by
        rw [shl_pow _ _ hx (by omega), w64 (by omega) (by omega)]; omega
      rw [e1, hc, e2, e3, e4, if_pos c1]
      have hpw : 128 ^ (i + 1) = 128 ^ i * 128 := Nat.pow_succ ..
      clear e4
      generalize 128 ^ i = p at *
      have hl : (bt s ((a + i : Nat) : Int)).toNat % 128 * p ≤ 127 * p := Nat.mul_le_mul_right _ (by omega)
      generalize hQ : (bt s ((a + i : Nat) : Int)).toNat % 128 * p = Q at *
      generalize hM : n + Q = M at *
      rw [decide_eq_true (show ((a + i : Nat) : Int) < (s.size : Int) by omega)]
      refine ev_pos (by first | rfl | trivial) (ev_pos (by omega) (ev_pos (by omega) (ev_pos (by omega) (ev_if (fun c => ?_) (fun c => ?_)))))
      · rw [if_pos c]
        refine ev_bind (impl_varText (M : Int)) ?_
        unfold varText
        by_cases h1 : M ≤ 1000000000
        · rw [if_pos (show 0 ≤ (M : Int) ∧ (M : Int) ≤ 1000000000 by omega), Int.toNat_natCast]
          have e5 : wrap64 ((i : Int) + 1) = ((i + 1 : Nat) : Int) := next64 i (by omega)
          have e6 : wrap64 (((a + i : Nat) : Int) + 1) = ((a + i + 1 : Nat) : Int) := next64 _ (by omega)
          rw [e5, e6]
          refine ev_pos rfl (ev_if (fun h2 => ?_) (fun h2 => ?_))
          · rw [strOfNums_size] at h2
            have h3 : (varL M).length = i + 1 := Int.ofNat_inj.1 h2
            rw [if_pos (And.intro h1 h3)]; exact Ev.now _
          · rw [strOfNums_size] at h2
            have h3 : ¬ (M ≤ 1000000000 ∧ (varL M).length = i + 1) := fun h => h2 (congrArg Int.ofNat h.2)
            rw [if_neg h3]; exact Ev.now _
        · rw [if_neg (show ¬ (0 ≤ (M : Int) ∧ (M : Int) ≤ 1000000000) by omega), if_neg (fun h : M ≤ 1000000000 ∧ (varL M).length = i + 1 => h1 h.1)]
          exact ev_neg (by simp) (Ev.now _)
      · rw [if_neg c, next64 i (by omega)]
        refine ih (i + 1) M (by omega) ?_
        rw [hpw]
        omega
    · rw [decide_eq_false (show ¬ ((a + i : Nat) : Int) < (s.size : Int) by omega), if_neg c1]
      exact ev_neg (by simp) (Ev.now _)
theorem impl_readVar (s : ByteArray) (hs : s.size ≤ 140737488351232) (a : Int) : Ev (fun k => impl_ReadVar.f k s a) (readVarM s a) := by
  unfold impl_ReadVar.f readVarM
  by_cases h : 0 ≤ a ∧ a ≤ (s.size : Int)
  · rw [if_pos h]
    refine ev_cbind (within_true h.1 h.2) (ev_pos rfl ?_)
    have := impl_rv s hs a.toNat (by omega) 5 0 0 (by omega) (by decide)
    rw [Int.toNat_of_nonneg h.1] at this
    exact this
  · rw [if_neg h]
    exact ev_cbind (within_false h) (ev_neg (by simp) (Ev.now _))
/-- What has been read: i bytes that all go on, and their value. -/
def Behind (s : ByteArray) (a i n : Nat) : Prop := ∀ l, Chain l → Chain (bytesAt s a i ++ l) ∧ valL (bytesAt s a i ++ l) = n + valL l * 128 ^ i
theorem bytesAt_succ (s : ByteArray) (a i : Nat) : bytesAt s a (i + 1) = bytesAt s a i ++ [bt s ((a + i : Nat) : Int)] := by
  unfold bytesAt
  rw [List.range_succ, List.map_append]; rfl
theorem behind_zero (s : ByteArray) (a : Nat) : Behind s a 0 0 := by
  intro l hl
  refine ⟨hl, ?_⟩
  show valL l = 0 + valL l * 128 ^ 0
  rw [Nat.pow_zero]; omega
theorem behind_succ (s : ByteArray) (a i n : Nat) (h : Behind s a i n) (hc : ¬ bt s ((a + i : Nat) : Int) < 128) : Behind s a (i + 1) (n + (bt s ((a + i : Nat) : Int)).toNat % 128 * 128 ^ i) := by
  intro l hl
  have hb := bt_range s ((a + i : Nat) : Int)
  rw [bytesAt_succ, List.append_assoc]
  have hl2 : Chain ([bt s ((a + i : Nat) : Int)] ++ l) := by
    cases l with
    | nil => exact hl.elim
    | cons c l => exact ⟨by omega, hb.2, hl⟩
  obtain ⟨h1, h2⟩ := h _ hl2
  refine ⟨h1, ?_⟩
  rw [h2]
  have e : valL ([bt s ((a + i : Nat) : Int)] ++ l) = (bt s ((a + i : Nat) : Int)).toNat % 128 + 128 * valL l := rfl
  rw [e, Nat.add_mul, Nat.pow_succ, Nat.add_assoc]
  congr 2
  rw [Nat.mul_comm 128 (valL l), Nat.mul_assoc, Nat.mul_comm 128]
theorem spec_rv (s : ByteArray) (hs : s.size ≤ 140737488351232) (a : Nat) (ha : a ≤ s.size) : ∀ (d i n : Nat), d + i = 5 → n < 128 ^ i → Behind s a i n → Ev (fun k => spec_ReadVar.l0 k s (a : Int) (n : Int) ((128 ^ i : Nat) : Int) ((a + i : Nat) : Int)) (rv s a d i n) := by
  intro d
  induction d with
  | zero =>
    intro i n hi hn hbe
    have e0 : wrap64 ((a : Int) + 5) = (a : Int) + 5 := w64 (by omega) (by omega)
    refine ev_step ?_
    simp only [spec_ReadVar.l0]
    rw [e0]
    refine ev_if (fun _ => ?_) (fun _ => ?_)
    · refine ev_step ?_
      simp only [spec_ReadVar.j1]
      rw [decide_eq_false (by omega)]
      exact ev_neg (by simp) (Ev.now _)
    · refine ev_step ?_
      simp only [spec_ReadVar.j1]
      exact ev_neg (by simp) (Ev.now _)
  | succ d ih =>
    intro i n hi hn hbe
    have hp := pow5 i (by omega)
    have e0 : wrap64 ((a : Int) + 5) = (a : Int) + 5 := w64 (by omega) (by omega)
    refine ev_step ?_
    simp only [spec_ReadVar.l0]
    rw [rv, e0]
    by_cases c1 : a + i < s.size
    · have hb := bt_range s ((a + i : Nat) : Int)
      have q1 : ((a + i : Nat) : Int) < (s.size : Int) := by omega
      have q2 : ((a + i : Nat) : Int) < (a : Int) + 5 := by omega
      have q3 : 0 ≤ ((a + i : Nat) : Int) := by omega
      have q4 : (0 : Int) ≤ (a : Int) := by omega
      have q5 : (a : Int) ≤ ((a + (i + 1) : Nat) : Int) := by omega
      have q7 : a + (i + 1) ≤ s.size := by omega
      have q6 : ((a + (i + 1) : Nat) : Int) ≤ (s.size : Int) := by omega
      have hc : wrap64 (bt s ((a + i : Nat) : Int)) = bt s ((a + i : Nat) : Int) := w64 (by omega) (by omega)
      have e3 : Int.tmod (bt s ((a + i : Nat) : Int)) 128 = (((bt s ((a + i : Nat) : Int)).toNat % 128 : Nat) : Int) := by
        rw [Int.tmod_eq_emod_of_nonneg hb.1]; omega
      have hx : (bt s ((a + i : Nat) : Int)).toNat % 128 < 128 := by omega
      have hm := mul_small _ _ hx hp
      have e4 : wrap64 ((n : Int) + wrap64 ((((bt s ((a + i : Nat) : Int)).toNat % 128 : Nat) : Int) * ((128 ^ i : Nat) : Int))) = ((n + (bt s ((a + i : Nat) : Int)).toNat % 128 * 128 ^ i : Nat) : Int) := by
        rw [← Int.natCast_mul, w64 (x := (((bt s ((a + i : Nat) : Int)).toNat % 128 * 128 ^ i : Nat) : Int)) (by omega) (by omega), w64 (by omega) (by omega)]; omega
      have e5 : wrap64 (((128 ^ i : Nat) : Int) * 128) = ((128 ^ (i + 1) : Nat) : Int) := pow_next i (by omega)
      have e6 : wrap64 (((a + i : Nat) : Int) + 1) = ((a + (i + 1) : Nat) : Int) := next64 _ (by omega)
      rw [if_pos c1]
      refine ev_pos q1 (ev_step ?_)
      simp only [spec_ReadVar.j1]
      rw [hc, e3, e4, e5, e6, decide_eq_true q2]
      have hpw : 128 ^ (i + 1) = 128 ^ i * 128 := Nat.pow_succ ..
      clear e4 e5
      have hbe1 := hbe [bt s ((a + i : Nat) : Int)]
      have hbe2 := behind_succ s a i n hbe
      have hl : (bt s ((a + i : Nat) : Int)).toNat % 128 * 128 ^ i ≤ 127 * 128 ^ i := Nat.mul_le_mul_right _ (by omega)
      have hv : valL [bt s ((a + i : Nat) : Int)] = (bt s ((a + i : Nat) : Int)).toNat % 128 := by simp only [valL]; omega
      rw [hv] at hbe1
      clear hbe hv
      generalize hQ : (bt s ((a + i : Nat) : Int)).toNat % 128 * 128 ^ i = Q at *
      generalize hM : n + Q = M at *
      have hpn : M < 128 ^ (i + 1) := by rw [hpw]; generalize 128 ^ i = p at *; omega
      clear hn hl hpw hm hp hM hQ
      refine ev_pos (by first | rfl | trivial) (ev_pos q3 (ev_pos q1 (ev_if (fun c => ?_) (fun c => ?_))))
      · rw [if_pos c]
        have hch := hbe1 ⟨hb.1, c⟩
        rw [← bytesAt_succ] at hch
        clear ih hbe2 hpn
        have hvl := varL_val _ hch.1
        rw [hch.2] at hvl
        have hlen : (bytesAt s a (i + 1)).length = i + 1 := by simp [bytesAt]
        rw [hlen] at hvl
        refine ev_if (fun h1 => ?_) (fun h1 => ?_)
        · have hM1 : ¬ M ≤ 1000000000 := by clear hvl hch; omega
          rw [if_neg (fun h : M ≤ 1000000000 ∧ (varL M).length = i + 1 => hM1 h.1)]; exact Ev.now _
        · have hM1 : M ≤ 1000000000 := by clear hvl hch; omega
          refine ev_bind (spec_var' M hM1) (ev_pos q4 (ev_pos q5 (ev_pos q6 ?_)))
          have e7 : (((a : Nat) : Int) : Int).toNat = a := Int.toNat_natCast a
          have e8 : (((a + (i + 1) : Nat) : Int) : Int).toNat = a + (i + 1) := Int.toNat_natCast _
          rw [e7, e8, extract_bytesAt s a (i + 1) q7]
          refine ev_if (fun h2 => ?_) (fun h2 => ?_)
          · have h3 : varL M = bytesAt s a (i + 1) := strOfNums_inj (varL_range M) (bytesAt_range s a (i + 1)) (toList_inj h2)
            rw [if_pos (And.intro hM1 (by rw [h3, hlen]))]; exact Ev.now _
          · have h6 : ¬ (M ≤ 1000000000 ∧ (varL M).length = i + 1) := by
              rintro ⟨_, h4⟩
              rcases hvl with h5 | h5
              · exact h2 (by rw [h5])
              · rw [h4] at h5; exact Nat.lt_irrefl _ h5
            rw [if_neg h6]
            exact Ev.now _
      · rw [if_neg c]
        exact ih (i + 1) M (by omega) hpn (hbe2 c)
    · rw [if_neg c1]
      refine ev_neg (by omega) (ev_step ?_)
      simp only [spec_ReadVar.j1]
      exact ev_neg (by simp) (Ev.now _)
theorem spec_readVar (s : ByteArray) (hs : s.size ≤ 140737488351232) (a : Int) : Ev (fun k => spec_ReadVar.f k s a) (readVarM s a) := by
  unfold spec_ReadVar.f readVarM
  by_cases h : 0 ≤ a ∧ a ≤ (s.size : Int)
  · rw [if_pos h]
    refine ev_cbind (in_true h.1 h.2) (ev_pos rfl ?_)
    have := spec_rv s hs a.toNat (by omega) 5 0 0 (by omega) (by decide) (behind_zero s a.toNat)
    have e1 : ((a.toNat + 0 : Nat) : Int) = a := by omega
    have e2 : ((a.toNat : Nat) : Int) = a := by omega
    rw [e1, e2] at this
    exact this
  · rw [if_neg h]
    exact ev_cbind (in_false h) (ev_neg (by simp) (Ev.now _))

/-! a short text is read -/
theorem rv_bounds (s : ByteArray) (a : Nat) : ∀ (d i n : Nat), (rv s a d i n).2.2 = true → 0 ≤ (rv s a d i n).1 ∧ (rv s a d i n).1 ≤ 1000000000 ∧ ((a : Int) < (rv s a d i n).2.1) ∧ (rv s a d i n).2.1 ≤ (s.size : Int) := by
  intro d
  induction d with
  | zero => intro i n h; simp [rv] at h
  | succ d ih =>
    intro i n h
    rw [rv] at h ⊢
    generalize n + (bt s ((a + i : Nat) : Int)).toNat % 128 * 128 ^ i = M at *
    split at h
    · rename_i c1
      rw [if_pos c1]
      split at h
      · rename_i c2
        rw [if_pos c2]
        split at h
        · rename_i c3
          rw [if_pos c3]
          obtain ⟨c4, _⟩ := c3
          refine ⟨?_, ?_, ?_, ?_⟩
          · show 0 ≤ (M : Int); omega
          · show (M : Int) ≤ _; omega
          · show (a : Int) < ((a + i + 1 : Nat) : Int); omega
          · show ((a + i + 1 : Nat) : Int) ≤ _; omega
        · simp at h
      · rename_i c2
        rw [if_neg c2]
        exact ih _ _ h
    · simp at h
theorem readVarM_bounds (s : ByteArray) (a : Int) (h : (readVarM s a).2.2 = true) : 0 ≤ a ∧ 0 ≤ (readVarM s a).1 ∧ (readVarM s a).1 ≤ 1000000000 ∧ a < (readVarM s a).2.1 ∧ (readVarM s a).2.1 ≤ (s.size : Int) := by
  unfold readVarM at h ⊢
  split at h
  · rename_i c
    rw [if_pos c]
    have := rv_bounds s a.toNat 5 0 0 h
    refine ⟨c.1, this.1, this.2.1, ?_, this.2.2.2⟩
    have h2 := this.2.2.1
    omega
  · simp at h
def readShortM (s : ByteArray) (a : Int) : ByteArray × Int × Bool :=
  if (readVarM s a).2.2 = true ∧ (readVarM s a).1 ≤ 20000 ∧ (readVarM s a).1 ≤ (s.size : Int) - (readVarM s a).2.1 then (s.extract (readVarM s a).2.1.toNat ((readVarM s a).2.1 + (readVarM s a).1).toNat, (readVarM s a).2.1 + (readVarM s a).1, true) else ((⟨#[]⟩ : ByteArray), 0, false)
theorem impl_readShort (s : ByteArray) (hs : s.size ≤ 140737488351232) (a : Int) : Ev (fun k => impl_ReadShort.f k s a) (readShortM s a) := by
  unfold impl_ReadShort.f readShortM
  have hb := readVarM_bounds s a
  refine ev_bind (impl_readVar s hs a) ?_
  generalize readVarM s a = r at hb ⊢
  obtain ⟨n, next, ok⟩ := r
  refine ev_if (fun h1 => ?_) (fun h1 => ?_)
  · obtain ⟨b1, b2, b3, b4, b5⟩ := hb h1
    have h1' : ok = true := h1
    have b2' : 0 ≤ n := b2
    have b3' : n ≤ 1000000000 := b3
    have b4' : a < next := b4
    have b5' : next ≤ (s.size : Int) := b5
    clear hb b2 b3 b4 b5
    show Ev (fun _ => if n > 20000 then _ else if n > wrap64 ((s.size : Int) - next) then _ else if 0 ≤ next then if next ≤ wrap64 (next + n) then if wrap64 (next + n) ≤ (s.size : Int) then _ else _ else _ else _) (if ok = true ∧ n ≤ 20000 ∧ n ≤ (s.size : Int) - next then (s.extract next.toNat (next + n).toNat, next + n, true) else _)
    rw [w64 (x := (s.size : Int) - next) (by omega) (by omega), w64 (x := next + n) (by omega) (by omega)]
    refine ev_if (fun h2 => ?_) (fun h2 => ev_if (fun h3 => ?_) (fun h3 => ?_))
    · rw [if_neg (fun h => by omega)]; exact Ev.now _
    · rw [if_neg (fun h => by omega)]; exact Ev.now _
    · rw [if_pos (show ok = true ∧ n ≤ 20000 ∧ n ≤ (s.size : Int) - next from ⟨h1', by omega, by omega⟩)]
      exact ev_pos (by omega) (ev_pos (by omega) (ev_pos (by omega) (Ev.now _)))
  · rw [if_neg (fun h => h1 h.1)]; exact Ev.now _
theorem spec_readShort (s : ByteArray) (hs : s.size ≤ 140737488351232) (a : Int) : Ev (fun k => spec_ReadShort.f k s a) (readShortM s a) := by
  unfold spec_ReadShort.f readShortM
  have hb := readVarM_bounds s a
  refine ev_bind (spec_readVar s hs a) ?_
  generalize readVarM s a = r at hb ⊢
  obtain ⟨n, next, ok⟩ := r
  refine ev_if (fun h1 => ?_) (fun h1 => ?_)
  · obtain ⟨b1, b2, b3, b4, b5⟩ := hb h1
    have h1' : ok = true := h1
    have b2' : 0 ≤ n := b2
    have b3' : n ≤ 1000000000 := b3
    have b4' : a < next := b4
    have b5' : next ≤ (s.size : Int) := b5
    clear hb b2 b3 b4 b5
    show Ev (fun _ => if n > 20000 then _ else if n > wrap64 ((s.size : Int) - next) then _ else if 0 ≤ next then if next ≤ wrap64 (next + n) then if wrap64 (next + n) ≤ (s.size : Int) then _ else _ else _ else _) (if ok = true ∧ n ≤ 20000 ∧ n ≤ (s.size : Int) - next then (s.extract next.toNat (next + n).toNat, next + n, true) else _)
    rw [w64 (x := (s.size : Int) - next) (by omega) (by omega), w64 (x := next + n) (by omega) (by omega)]
    refine ev_if (fun h2 => ?_) (fun h2 => ev_if (fun h3 => ?_) (fun h3 => ?_))
    · rw [if_neg (fun h => by omega)]; exact Ev.now _
    · rw [if_neg (fun h => by omega)]; exact Ev.now _
    · rw [if_pos (show ok = true ∧ n ≤ 20000 ∧ n ≤ (s.size : Int) - next from ⟨h1', by omega, by omega⟩)]
      exact ev_pos (by omega) (ev_pos (by omega) (ev_pos (by omega) (Ev.now _)))
  · rw [if_neg (fun h => h1 h.1)]; exact Ev.now _

/-! an area is read -/
theorem secText_size (S : List ByteArray) (C : List IPut) (f : Int) (hs : ∀ s ∈ S, s.size ≤ 1048576) (hp : ∀ p ∈ C, p.f1.size ≤ 1048576) : ∀ (d : Nat) (i : Int) (acc : ByteArray), (secText S C f d i acc).1.size ≤ acc.size + d * 1048576 := by
  intro d
  induction d with
  | zero => intro i acc; simp [secText]
  | succ d ih =>
    intro i acc
    unfold secText
    split
    · refine Nat.le_trans (ih _ _) ?_
      have := readM_size S C (f + i) 1048576 hs hp
      rw [ByteArray.size_append]; omega
    · show 0 ≤ _; omega
theorem sectorTextM_size (S : List ByteArray) (C : List IPut) (f n : Int) (hs : ∀ s ∈ S, s.size ≤ 1048576) (hp : ∀ p ∈ C, p.f1.size ≤ 1048576) : (sectorTextM S C f n).1.size ≤ 104857600 := by
  unfold sectorTextM
  split
  · rename_i h
    refine Nat.le_trans (secText_size S C f hs hp n.toNat 0 _) ?_
    have : n.toNat * 1048576 ≤ 100 * 1048576 := Nat.mul_le_mul_right _ (by omega)
    show 0 + _ ≤ _; omega
  · show 0 ≤ _; omega
def readRecs (t : ByteArray) : Nat → Int → List ByteArray → List ByteArray × Int × Bool
  | 0, a, acc => (acc, a, true)
  | d + 1, a, acc => if (readShortM t a).2.2 = true then (if (readShortM t a).1.toList = ([] : List UInt8) then (([] : List ByteArray), 0, false) else readRecs t d (readShortM t a).2.1 (acc ++ [(readShortM t a).1])) else (([] : List ByteArray), 0, false)
def areaText (S : List ByteArray) (C : List IPut) (a : Int) : ByteArray × Bool := sectorTextM S C (areaFirstM a + 1) 47
def readAreaM (S : List ByteArray) (C : List IPut) (a : Int) : List ByteArray × Int × Bool :=
  if 0 ≤ a ∧ a ≤ 1 then (if (areaText S C a).2 = true then readRecs (areaText S C a).1 (countM S C a).toNat 0 [] else (([] : List ByteArray), 0, false)) else (([] : List ByteArray), 0, false)
theorem countM_range (S : List ByteArray) (C : List IPut) (a : Int) : 0 ≤ countM S C a ∧ countM S C a ≤ 255 := by
  unfold countM
  split
  · exact firstM_range _ _ _
  · omega
theorem impl_recs (S : List ByteArray) (C : List IPut) (a : Int) (t : ByteArray) (hS : S.length ≤ 1099511627776) (hC : C.length ≤ 1099511627776) (ht : t.size ≤ 104857600) : ∀ (d : Nat) (i at_ : Int) (acc : List ByteArray), 0 ≤ i → i + d = countM S C a → acc.length ≤ i.toNat →
    Ev (fun k => impl_ReadArea.l0 k a t acc at_ i S C) (readRecs t d at_ acc) := by
  have hc := countM_range S C a
  intro d
  induction d with
  | zero =>
    intro i at_ acc h0 h1 h2
    refine ev_step ?_
    simp only [impl_ReadArea.l0]
    exact ev_bind (impl_count S C a hS hC) (ev_neg (by omega) (Ev.now _))
  | succ d ih =>
    intro i at_ acc h0 h1 h2
    refine ev_step ?_
    simp only [impl_ReadArea.l0]
    unfold readRecs
    rw [w64 (x := i + 1) (by omega) (by omega)]
    refine ev_bind (impl_count S C a hS hC) (ev_pos (by omega) (ev_bind (impl_readShort t (by omega) at_) (ev_if (fun c => ev_if (fun c2 => ?_) (fun c2 => ?_)) (fun c => ?_))))
    · rw [if_pos c, if_pos c2]; exact Ev.now _
    · rw [if_pos c, if_neg c2]
      exact ev_pos (by omega) (ih (i + 1) _ _ (by omega) (by omega) (by rw [List.length_append, List.length_singleton]; omega))
    · rw [if_neg c]; exact Ev.now _
theorem impl_readArea (S : List ByteArray) (C : List IPut) (a : Int) (hS : S.length ≤ 1099511627776) (hC : C.length ≤ 1099511627776) (hs : ∀ s ∈ S, s.size ≤ 1048576) (hp : ∀ p ∈ C, p.f1.size ≤ 1048576) : Ev (fun k => impl_ReadArea.f k S C a) (readAreaM S C a) := by
  unfold impl_ReadArea.f readAreaM
  have hc := countM_range S C a
  have hA : 0 ≤ areaFirstM a ∧ areaFirstM a ≤ 49 := by unfold areaFirstM; split <;> omega
  have hw : wrap64 (areaFirstM a + 1) = areaFirstM a + 1 := w64 (by omega) (by omega)
  have ht := impl_sectorText S C (areaFirstM a + 1) 47 hS hC (by omega) hs hp
  have hz := sectorTextM_size S C (areaFirstM a + 1) 47 hs hp
  refine ev_cbind (impl_areaFirst a) ?_
  rw [hw]
  refine ev_bind ht ?_
  unfold areaText
  generalize sectorTextM S C (areaFirstM a + 1) 47 = t at hz
  have hi : impl_isArea.f a = some (decide (0 ≤ a ∧ a ≤ 1)) := by
    unfold impl_isArea.f
    by_cases h0 : a = 0
    · rw [if_pos h0]; subst h0; rfl
    · rw [if_neg h0]
      by_cases h1 : a = 1
      · subst h1; rfl
      · rw [decide_eq_false (by omega), beq_eq_false_iff_ne.2 h1]
  refine ev_if (fun c => ev_cbind hi (ev_step ?_)) (fun c => ev_step ?_)
  · simp only [impl_ReadArea.j0]
    by_cases d : 0 ≤ a ∧ a ≤ 1
    · rw [decide_eq_true d, if_pos d, if_pos c]
      exact ev_neg (by simp) (impl_recs S C a t.1 hS hC hz (countM S C a).toNat 0 0 [] (by omega) (by omega) (by simp))
    · rw [decide_eq_false d, if_neg d]
      exact ev_pos rfl (Ev.now _)
  · simp only [impl_ReadArea.j0]
    refine ev_pos (by first | rfl | trivial) (ev_now ?_)
    rw [if_neg c]
    split <;> rfl
theorem spec_recs (S : List ByteArray) (C : List IPut) (a : Int) (t : ByteArray) (hS : S.length ≤ 1099511627776) (hC : C.length ≤ 1099511627776) (ht : t.size ≤ 104857600) : ∀ (d : Nat) (i at_ : Int) (acc : List ByteArray), 0 ≤ i → i + d = countM S C a → acc.length ≤ i.toNat →
    Ev (fun k => spec_ReadArea.l0 k a ([] : List ByteArray) t acc at_ i S C) (readRecs t d at_ acc) := by
  have hc := countM_range S C a
  intro d
  induction d with
  | zero =>
    intro i at_ acc h0 h1 h2
    refine ev_step ?_
    simp only [spec_ReadArea.l0]
    exact ev_bind (spec_count S C a hS hC) (ev_neg (by omega) (Ev.now _))
  | succ d ih =>
    intro i at_ acc h0 h1 h2
    refine ev_step ?_
    simp only [spec_ReadArea.l0]
    unfold readRecs
    rw [w64 (x := i + 1) (by omega) (by omega)]
    refine ev_bind (spec_count S C a hS hC) (ev_pos (by omega) (ev_bind (spec_readShort t (by omega) at_) (ev_if (fun c => ev_if (fun c2 => ?_) (fun c2 => ?_)) (fun c => ?_))))
    · rw [if_pos c, if_pos c2]; exact Ev.now _
    · rw [if_pos c, if_neg c2]
      exact ev_pos (by omega) (ih (i + 1) _ _ (by omega) (by omega) (by rw [List.length_append, List.length_singleton]; omega))
    · rw [if_neg c]; exact Ev.now _
theorem spec_readArea (S : List ByteArray) (C : List IPut) (a : Int) (hS : S.length ≤ 1099511627776) (hC : C.length ≤ 1099511627776) (hs : ∀ s ∈ S, s.size ≤ 1048576) (hp : ∀ p ∈ C, p.f1.size ≤ 1048576) : Ev (fun k => spec_ReadArea.f k S C a) (readAreaM S C a) := by
  unfold spec_ReadArea.f readAreaM
  have hc := countM_range S C a
  have hA : 0 ≤ areaFirstM a ∧ areaFirstM a ≤ 49 := by unfold areaFirstM; split <;> omega
  have hw : wrap64 (areaFirstM a + 1) = areaFirstM a + 1 := w64 (by omega) (by omega)
  have ht := spec_sectorText S C (areaFirstM a + 1) 47 hS hC (by omega) hs hp
  have hz := sectorTextM_size S C (areaFirstM a + 1) 47 hs hp
  refine ev_cbind rfl (ev_cbind (in_val _ _ _) (ev_if (fun d => ?_) (fun d => ?_)))
  · rw [decide_eq_true_eq] at d
    rw [if_pos d]
    refine ev_cbind (spec_areaFirst a) ?_
    rw [hw]
    refine ev_bind ht ?_
    unfold areaText
    generalize sectorTextM S C (areaFirstM a + 1) 47 = t at hz
    refine ev_if (fun c => ?_) (fun c => ?_)
    · rw [if_pos c]
      exact spec_recs S C a t.1 hS hC hz (countM S C a).toNat 0 0 [] (by omega) (by omega) (by simp)
    · rw [if_neg c]; exact Ev.now _
  · rw [if_neg (fun h => d (decide_eq_true h))]; exact Ev.now _
theorem readRecs_len (t : ByteArray) : ∀ (d : Nat) (a : Int) (acc : List ByteArray), (readRecs t d a acc).1.length ≤ acc.length + d := by
  intro d
  induction d with
  | zero => intro a acc; simp [readRecs]
  | succ d ih =>
    intro a acc
    unfold readRecs
    split
    · split
      · show 0 ≤ _; omega
      · refine Nat.le_trans (ih _ _) ?_
        rw [List.length_append, List.length_singleton]; omega
    · show 0 ≤ _; omega
theorem readAreaM_len (S : List ByteArray) (C : List IPut) (a : Int) : (readAreaM S C a).1.length ≤ 255 := by
  unfold readAreaM
  have hc := countM_range S C a
  split
  · split
    · refine Nat.le_trans (readRecs_len _ _ _ _) ?_
      show 0 + _ ≤ _; omega
    · show 0 ≤ _; omega
  · show 0 ≤ _; omega

def logTextsM (S : List ByteArray) (C : List IPut) : List ByteArray := (readAreaM S C (activeM S C)).1
theorem impl_logTexts (S : List ByteArray) (C : List IPut) (hS : S.length ≤ 1099511627776) (hC : C.length ≤ 1099511627776) (hs : ∀ s ∈ S, s.size ≤ 1048576) (hp : ∀ p ∈ C, p.f1.size ≤ 1048576) : Ev (fun k => impl_LogTexts.f k S C) (logTextsM S C) := by
  unfold impl_LogTexts.f logTextsM
  exact ev_bind (impl_active S C hS hC) (ev_bind (impl_readArea S C _ hS hC hs hp) (Ev.now _))
theorem spec_logTexts (S : List ByteArray) (C : List IPut) (hS : S.length ≤ 1099511627776) (hC : C.length ≤ 1099511627776) (hs : ∀ s ∈ S, s.size ≤ 1048576) (hp : ∀ p ∈ C, p.f1.size ≤ 1048576) : Ev (fun k => spec_LogTexts.f k S C) (logTextsM S C) := by
  unfold spec_LogTexts.f logTextsM
  exact ev_bind (spec_active S C hS hC) (ev_bind (spec_readArea S C _ hS hC hs hp) (Ev.now _))

theorem FnExactLogTexts (l0_0 : List ByteArray) (l0_1 : List LPut) : l0_0.length ≤ 9223372036854775807 → (∀ x ∈ l0_0, x.size ≤ 9223372036854775807) → l0_1.length ≤ 9223372036854775807 → (∀ x ∈ l0_1, (Lit.int .i64 x.f0).wf = true ∧ x.f1.size ≤ 9223372036854775807) → ∃ k, laws_FnExactLogTexts.f k l0_0 l0_1 = some true := by
  intro hS hs hC hp
  refine ev_at ?_
  unfold laws_FnExactLogTexts.f
  obtain ⟨t, ht, hq⟩ := szDisk_ok l0_0 l0_1 1048576 hS hs hC (fun p hm => (hp p hm).2) (by omega) (by omega)
  refine ev_bind ht ?_
  rcases hq with hq | ⟨q1, q2, q3, q4, q5, q6⟩
  · exact ev_pos hq (Ev.now _)
  · have hd := toDisk_ok l0_0 l0_1 q3 q5
    have hm : (l0_1.map toIPut).length = l0_1.length := by simp
    have hz : ∀ p ∈ l0_1.map toIPut, p.f1.size ≤ 1048576 := by
      intro p hp2
      obtain ⟨x, hx, rfl⟩ := List.mem_map.1 hp2
      exact q6 x hx
    generalize l0_1.map toIPut = C at hd hm hz
    have a3 := eqDisk_same l0_0 C (by omega) (by omega)
    have b1 := spec_logTexts l0_0 C (by omega) (by omega) q4 hz
    have b2 := impl_logTexts l0_0 C (by omega) (by omega) q4 hz
    have hl := readAreaM_len l0_0 C (activeM l0_0 C)
    generalize hr : logTextsM l0_0 C = r at b1 b2
    have hl1 : r.length ≤ 255 := by rw [← hr]; exact hl
    have c3 := eqStringS_same r (by omega)
    obtain ⟨m1, S1, C1, e1, p1⟩ := disk_marks l0_0 C (by omega) (by omega)
    obtain ⟨m2, S2, e2, p2, f2⟩ := strings_marked r (by omega)
    refine ev_neg (by omega) (ev_bind hd (ev_bind b1 (ev_bind hd (ev_bind b2 (ev_bind c3 (ev_pos rfl (ev_bind hd (ev_bind a3 (ev_pos rfl (ev_bind e1 (ev_neg (by show ¬ m1 < 0; omega) (ev_bind c3 (ev_step ?_)))))))))))))
    simp only [laws_FnExactLogTexts.j0]
    exact ev_neg (by simp) (ev_bind e2 (ev_bind f2 (ev_neg (by omega) (ev_pos rfl (ev_bind hd (ev_bind b2 (ev_bind c3 (ev_pos rfl (ev_bind f2 (ev_neg (by omega) (ev_pos rfl (Ev.now _))))))))))))

end Go.Proofs.Ytlmnbgblmackkaa.Pure
