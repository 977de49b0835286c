/- The law FnExactCountIn answers true at every disk and argument. Conditions: lengths and sizes as the row gives them. -/
import Derived.Test.YtfgjhfoljeaiiaaQFnExactCountInx3
import Derived.Test.YtfgjhfoljeaiiaaAid
namespace Go.Proofs.Ytfgjhfoljeaiiaa.Pure
open Go.RowKit Go.Proofs.Ytfgjhfoljeaiiaa.QFnExactCountIn Go.Proofs.YtfgjhfoljeaiiaaW.PrintWords Go.Proofs.YtfgjhfoljeaiiaaW.PrintLast Go.Proofs.Ytfgjhfoljeaiiaa.Aid

abbrev IPut := S64
abbrev LPut := S80
/-! what the laws' own helpers tell: sizes -/
theorem szStringS_l (l : List ByteArray) (hl : l.length ≤ 9223372036854775807) (hs : ∀ s ∈ l, s.size ≤ 9223372036854775807) : ∀ (rest pre : List ByteArray) (left : Int), l = pre ++ rest → 0 ≤ left → left ≤ 1048576 →
    ∃ t, Ev (fun k => laws_szStringS.l0 k l left (pre.length : Int)) t ∧ (t < 0 ∨ (0 ≤ t ∧ t ≤ left ∧ ∀ s ∈ rest, s.size ≤ 1048576)) := by
  intro rest
  induction rest with
  | nil =>
    intro pre left e h0 h1
    refine ⟨left, ev_step ?_, .inr ⟨h0, Int.le_refl _, by simp⟩⟩
    simp only [laws_szStringS.l0]
    exact ev_neg (by rw [e]; simp) (Ev.now _)
  | cons x rest ih =>
    intro pre left e h0 h1
    have hx : x.size ≤ 9223372036854775807 := hs x (by rw [e]; simp)
    have hg : rdOf ByteArray.empty l (pre.length : Int) = x := by unfold rdOf; rw [Int.toNat_natCast, e, getD_mid]
    have hlt : (pre.length : Int) < (l.length : Int) := by rw [e]; exact len_mid _ _ _
    have hw : wrap64 (left - (x.size : Int)) = left - (x.size : Int) := w64 (by omega) (by omega)
    by_cases c : left - (x.size : Int) < 0
    · refine ⟨-1, ev_step ?_, .inl (by omega)⟩
      simp only [laws_szStringS.l0]
      rw [hg, hw]
      exact ev_pos hlt (ev_pos (by omega) (ev_pos c (Ev.now _)))
    · obtain ⟨t, ht, hq⟩ := ih (pre ++ [x]) (left - (x.size : Int)) (by simp [e]) (by omega) (by omega)
      refine ⟨t, ev_step ?_, ?_⟩
      · simp only [laws_szStringS.l0]
        rw [hg, hw, next64 _ (by have := hl; omega)]
        rw [List.length_append, List.length_singleton] at ht
        exact ev_pos hlt (ev_pos (by omega) (ev_neg c ht))
      · rcases hq with hq | ⟨q1, q2, q3⟩
        · exact .inl hq
        · refine .inr ⟨q1, by omega, ?_⟩
          intro s hs2
          rcases List.mem_cons.1 hs2 with rfl | hs2
          · omega
          · exact q3 s hs2
theorem szStringS_ok (l : List ByteArray) (left : Int) (hl : l.length ≤ 9223372036854775807) (hs : ∀ s ∈ l, s.size ≤ 9223372036854775807) (h0 : 0 ≤ left) (h1 : left ≤ 1048576) :
    ∃ t, Ev (fun k => laws_szStringS.f k l left) t ∧ (t < 0 ∨ (0 ≤ t ∧ t ≤ left ∧ l.length ≤ 1048576 ∧ ∀ s ∈ l, s.size ≤ 1048576)) := by
  unfold laws_szStringS.f
  have hw : wrap64 (left - (l.length : Int)) = left - (l.length : Int) := w64 (by omega) (by omega)
  rw [hw]
  by_cases c : left - (l.length : Int) < 0
  · exact ⟨-1, ev_pos c (Ev.now _), .inl (by omega)⟩
  · obtain ⟨t, ht, hq⟩ := szStringS_l l hl hs l [] (left - (l.length : Int)) rfl (by omega) (by omega)
    refine ⟨t, ev_neg c ht, ?_⟩
    rcases hq with hq | ⟨q1, q2, q3⟩
    · exact .inl hq
    · exact .inr ⟨q1, by omega, by omega, q3⟩
theorem szPutS_l (l : List LPut) (hl : l.length ≤ 9223372036854775807) (hs : ∀ p ∈ l, p.f1.size ≤ 9223372036854775807) : ∀ (rest pre : List LPut) (left : Int), l = pre ++ rest → 0 ≤ left → left ≤ 1048576 →
    ∃ t, Ev (fun k => laws_szPutS.l0 k l left (pre.length : Int)) t ∧ (t < 0 ∨ (0 ≤ t ∧ t ≤ left ∧ ∀ p ∈ rest, p.f1.size ≤ 1048576)) := by
  intro rest
  induction rest with
  | nil =>
    intro pre left e h0 h1
    refine ⟨left, ev_step ?_, .inr ⟨h0, Int.le_refl _, by simp⟩⟩
    simp only [laws_szPutS.l0]
    exact ev_neg (by rw [e]; simp) (Ev.now _)
  | cons x rest ih =>
    intro pre left e h0 h1
    have hx : x.f1.size ≤ 9223372036854775807 := hs x (by rw [e]; simp)
    have hg : rd_T80 l (pre.length : Int) = x := by unfold rd_T80; rw [Int.toNat_natCast, e, getD_mid]
    have hlt : (pre.length : Int) < (l.length : Int) := by rw [e]; exact len_mid _ _ _
    have hw : wrap64 (left - (x.f1.size : Int)) = left - (x.f1.size : Int) := w64 (by omega) (by omega)
    by_cases c : left - (x.f1.size : Int) < 0
    · have hp : laws_szPut.f x.f0 x.f1 left = some (-1) := by unfold laws_szPut.f; rw [hw, if_pos c]
      refine ⟨-1, ev_step ?_, .inl (by omega)⟩
      simp only [laws_szPutS.l0]
      rw [hg]
      exact ev_pos hlt (ev_pos (by omega) (ev_cbind hp (ev_pos (by omega) (Ev.now _))))
    · have hp : laws_szPut.f x.f0 x.f1 left = some (left - (x.f1.size : Int)) := by unfold laws_szPut.f; rw [hw, if_neg c]
      obtain ⟨t, ht, hq⟩ := ih (pre ++ [x]) (left - (x.f1.size : Int)) (by simp [e]) (by omega) (by omega)
      refine ⟨t, ev_step ?_, ?_⟩
      · simp only [laws_szPutS.l0]
        rw [hg, next64 _ (by have := hl; omega)]
        rw [List.length_append, List.length_singleton] at ht
        exact ev_pos hlt (ev_pos (by omega) (ev_cbind hp (ev_neg c ht)))
      · rcases hq with hq | ⟨q1, q2, q3⟩
        · exact .inl hq
        · refine .inr ⟨q1, by omega, ?_⟩
          intro s hs2
          rcases List.mem_cons.1 hs2 with rfl | hs2
          · omega
          · exact q3 s hs2
theorem szPutS_ok (l : List LPut) (left : Int) (hl : l.length ≤ 9223372036854775807) (hs : ∀ p ∈ l, p.f1.size ≤ 9223372036854775807) (h0 : 0 ≤ left) (h1 : left ≤ 1048576) :
    ∃ t, Ev (fun k => laws_szPutS.f k l left) t ∧ (t < 0 ∨ (0 ≤ t ∧ t ≤ left ∧ l.length ≤ 1048576 ∧ ∀ p ∈ l, p.f1.size ≤ 1048576)) := by
  unfold laws_szPutS.f
  have hw : wrap64 (left - (l.length : Int)) = left - (l.length : Int) := w64 (by omega) (by omega)
  rw [hw]
  by_cases c : left - (l.length : Int) < 0
  · exact ⟨-1, ev_pos c (Ev.now _), .inl (by omega)⟩
  · obtain ⟨t, ht, hq⟩ := szPutS_l l hl hs l [] (left - (l.length : Int)) rfl (by omega) (by omega)
    refine ⟨t, ev_neg c ht, ?_⟩
    rcases hq with hq | ⟨q1, q2, q3⟩
    · exact .inl hq
    · exact .inr ⟨q1, by omega, by omega, q3⟩
theorem szDisk_ok (S : List ByteArray) (C : List LPut) (left : Int) (hS : S.length ≤ 9223372036854775807) (hs : ∀ s ∈ S, s.size ≤ 9223372036854775807) (hC : C.length ≤ 9223372036854775807) (hp : ∀ p ∈ C, p.f1.size ≤ 9223372036854775807) (h0 : 0 ≤ left) (h1 : left ≤ 1048576) :
    ∃ t, Ev (fun k => laws_szDisk.f k S C left) t ∧ (t < 0 ∨ (0 ≤ t ∧ t ≤ left ∧ S.length ≤ 1048576 ∧ (∀ s ∈ S, s.size ≤ 1048576) ∧ C.length ≤ 1048576 ∧ ∀ p ∈ C, p.f1.size ≤ 1048576)) := by
  unfold laws_szDisk.f
  obtain ⟨t, ht, hq⟩ := szStringS_ok S left hS hs h0 h1
  rcases hq with hq | ⟨q1, q2, q3, q4⟩
  · exact ⟨-1, ev_bind ht (ev_pos hq (Ev.now _)), .inl (by omega)⟩
  · obtain ⟨u, hu, hr⟩ := szPutS_ok C t hC hp q1 (by omega)
    rcases hr with hr | ⟨r1, r2, r3, r4⟩
    · exact ⟨-1, ev_bind ht (ev_neg (by omega) (ev_bind hu (ev_pos hr (Ev.now _)))), .inl (by omega)⟩
    · exact ⟨u, ev_bind ht (ev_neg (by omega) (ev_bind hu (ev_neg (by omega) (Ev.now _)))), .inr ⟨r1, by omega, q3, q4, r3, r4⟩⟩
/-! copies -/
theorem toStringS_l (l : List ByteArray) (hl : l.length ≤ 1048576) : ∀ (rest pre : List ByteArray), l = pre ++ rest → Ev (fun k => laws_toStringS.l0 k l (pre ++ List.replicate rest.length (⟨#[]⟩ : ByteArray)) (pre.length : Int)) l := by
  intro rest
  induction rest with
  | nil =>
    intro pre e
    refine ev_step ?_
    simp only [laws_toStringS.l0]
    exact ev_neg (by rw [e]; simp) (ev_now (by rw [e]; simp))
  | cons x rest ih =>
    intro pre e
    refine ev_step ?_
    simp only [laws_toStringS.l0]
    have hg : rdOf ByteArray.empty l (pre.length : Int) = x := by unfold rdOf; rw [Int.toNat_natCast, e, getD_mid]
    have hlt : (pre.length : Int) < (l.length : Int) := by rw [e]; exact len_mid _ _ _
    have h := ih (pre ++ [x]) (by simp [e])
    rw [List.length_append, List.length_singleton] at h
    rw [hg, next64 _ (by omega), Int.toNat_natCast, List.length_cons, List.replicate_succ, set_mid]
    refine ev_pos hlt (ev_pos (by omega) (ev_pos (by simp; omega) ?_))
    rw [List.append_assoc] at h
    exact h
theorem toStringS_ok (l : List ByteArray) (hl : l.length ≤ 1048576) : Ev (fun k => laws_toStringS.f k l) l := by
  unfold laws_toStringS.f
  rw [Int.toNat_natCast]
  exact ev_pos (by omega) (ev_pos (by omega) (toStringS_l l hl l [] rfl))
def toIPut (x : LPut) : IPut := ⟨x.f0, x.f1⟩
theorem toPutS_l (l : List LPut) (hl : l.length ≤ 1048576) : ∀ (rest pre : List LPut), l = pre ++ rest → Ev (fun k => laws_toPutS.l0 k l (pre.map toIPut ++ List.replicate rest.length z64) (pre.length : Int)) (l.map toIPut) := by
  intro rest
  induction rest with
  | nil =>
    intro pre e
    refine ev_step ?_
    simp only [laws_toPutS.l0]
    exact ev_neg (by rw [e]; simp) (ev_now (by rw [e]; simp))
  | cons x rest ih =>
    intro pre e
    refine ev_step ?_
    simp only [laws_toPutS.l0]
    have hg : rd_T80 l (pre.length : Int) = x := by unfold rd_T80; rw [Int.toNat_natCast, e, getD_mid]
    have hlt : (pre.length : Int) < (l.length : Int) := by rw [e]; exact len_mid _ _ _
    have h := ih (pre ++ [x]) (by simp [e])
    rw [List.length_append, List.length_singleton] at h
    have hm : (pre.map toIPut).length = pre.length := by simp
    rw [hg, next64 _ (by omega), Int.toNat_natCast, List.length_cons, List.replicate_succ]
    refine ev_pos hlt (ev_pos (by omega) (ev_cbind rfl (ev_pos (by simp; omega) ?_)))
    rw [← hm, set_mid, hm]
    rw [List.map_append, List.append_assoc] at h
    exact h
theorem toPutS_ok (l : List LPut) (hl : l.length ≤ 1048576) : Ev (fun k => laws_toPutS.f k l) (l.map toIPut) := by
  unfold laws_toPutS.f
  rw [Int.toNat_natCast]
  exact ev_pos (by omega) (ev_pos (by omega) (toPutS_l l hl l [] rfl))
theorem toDisk_ok (S : List ByteArray) (C : List LPut) (hS : S.length ≤ 1048576) (hC : C.length ≤ 1048576) : Ev (fun k => laws_toDisk.f k S C) (S, C.map toIPut) := by
  unfold laws_toDisk.f
  exact ev_bind (toStringS_ok S hS) (ev_bind (toPutS_ok C hC) (Ev.now _))
/-! a list is as itself -/
theorem eqStringS_l (l : List ByteArray) (hl : l.length ≤ 9223372036854775800) : ∀ (rest pre : List ByteArray), l = pre ++ rest → Ev (fun k => laws_eqStringS.l0 k l l (pre.length : Int)) true := by
  intro rest
  induction rest with
  | nil =>
    intro pre e
    refine ev_step ?_
    simp only [laws_eqStringS.l0]
    exact ev_neg (by rw [e]; simp) (Ev.now _)
  | cons x rest ih =>
    intro pre e
    refine ev_step ?_
    simp only [laws_eqStringS.l0]
    have hlt : (pre.length : Int) < (l.length : Int) := by rw [e]; exact len_mid _ _ _
    have h := ih (pre ++ [x]) (by simp [e])
    rw [List.length_append, List.length_singleton] at h
    rw [next64 _ (by omega)]
    exact ev_pos hlt (ev_pos (by omega) (ev_pos hlt (ev_pos (by first | rfl | trivial) h)))
theorem eqStringS_same (l : List ByteArray) (hl : l.length ≤ 9223372036854775800) : Ev (fun k => laws_eqStringS.f k l l) true := by
  unfold laws_eqStringS.f
  exact ev_pos rfl (eqStringS_l l hl l [] rfl)
theorem eqPut_same (x : IPut) : laws_eqPut.f x.f0 x.f1 x.f0 x.f1 = some true := by unfold laws_eqPut.f; rw [if_pos rfl, if_pos rfl]
theorem eqPutS_l (l : List IPut) (hl : l.length ≤ 9223372036854775800) : ∀ (rest pre : List IPut), l = pre ++ rest → Ev (fun k => laws_eqPutS.l0 k l l (pre.length : Int)) true := by
  intro rest
  induction rest with
  | nil =>
    intro pre e
    refine ev_step ?_
    simp only [laws_eqPutS.l0]
    exact ev_neg (by rw [e]; simp) (Ev.now _)
  | cons x rest ih =>
    intro pre e
    refine ev_step ?_
    simp only [laws_eqPutS.l0]
    have hlt : (pre.length : Int) < (l.length : Int) := by rw [e]; exact len_mid _ _ _
    have h := ih (pre ++ [x]) (by simp [e])
    rw [List.length_append, List.length_singleton] at h
    rw [next64 _ (by omega)]
    exact ev_pos hlt (ev_pos (by omega) (ev_pos hlt (ev_cbind (eqPut_same _) (ev_pos rfl h))))
theorem eqPutS_same (l : List IPut) (hl : l.length ≤ 9223372036854775800) : Ev (fun k => laws_eqPutS.f k l l) true := by
  unfold laws_eqPutS.f
  exact ev_pos rfl (eqPutS_l l hl l [] rfl)
theorem eqDisk_same (S : List ByteArray) (C : List IPut) (hS : S.length ≤ 9223372036854775800) (hC : C.length ≤ 9223372036854775800) : Ev (fun k => laws_eqDisk.f k S C S C) true := by
  unfold laws_eqDisk.f
  exact ev_bind (eqStringS_same S hS) (ev_pos rfl (ev_bind (eqPutS_same C hC) (ev_pos rfl (Ev.now _))))

theorem within_val (a b c : Int) : impl_within.f a b c = some (decide (b ≤ a ∧ a ≤ c)) := by
  unfold impl_within.f
  by_cases h : a ≥ b
  · rw [if_pos h]; congr 1; simp; intro; exact h
  · rw [if_neg h]; congr 1; simp; intro h2; omega
theorem in_val (a b c : Int) : spec_l01In.f a b c = some (decide (b ≤ a ∧ a ≤ c)) := by
  unfold spec_l01In.f
  by_cases h : a ≥ b
  · rw [if_pos h]; congr 1; simp; intro; exact h
  · rw [if_neg h]; congr 1; simp; intro h2; omega

/-! a sector is read -/
def lastPut (C : List IPut) (i : Int) (d : ByteArray) : ByteArray := C.foldl (fun t p => if p.f0 = i then p.f1 else t) d
def readM (S : List ByteArray) (C : List IPut) (i : Int) : ByteArray × Bool := if 0 ≤ i ∧ i ≤ (S.length : Int) - 1 then (lastPut C i (S.getD i.toNat ByteArray.empty), true) else ((⟨#[]⟩ : ByteArray), false)
theorem impl_read0 (C : List IPut) (i : Int) (hC : C.length ≤ 1099511627776) : ∀ (rest pre : List IPut) (d : ByteArray), C = pre ++ rest →
    Ev (fun k => impl_ReadSector.l0 k i d C (C.length : Int) (pre.length : Int)) (lastPut rest i d, true) := by
  intro rest
  induction rest with
  | nil =>
    intro pre d e
    refine ev_step ?_
    simp only [impl_ReadSector.l0]
    exact ev_neg (by rw [e]; simp) (Ev.now _)
  | cons p rest ih =>
    intro pre d e
    have hg : rd_T64 C (pre.length : Int) = p := by unfold rd_T64; rw [Int.toNat_natCast, e, getD_mid]
    have hlt : (pre.length : Int) < (C.length : Int) := by rw [e]; exact len_mid _ _ _
    refine ev_step ?_
    simp only [impl_ReadSector.l0]
    rw [hg, next64 _ (by omega)]
    refine ev_pos hlt (ev_pos (by omega) (ev_pos hlt ?_))
    by_cases c : p.f0 = i
    · have h := ih (pre ++ [p]) p.f1 (by simp [e])
      rw [List.length_append, List.length_singleton] at h
      refine ev_pos c (ev_eq h ?_)
      unfold lastPut
      rw [List.foldl_cons, if_pos c]
    · have h := ih (pre ++ [p]) d (by simp [e])
      rw [List.length_append, List.length_singleton] at h
      refine ev_neg c (ev_eq h ?_)
      unfold lastPut
      rw [List.foldl_cons, if_neg c]
theorem impl_read (S : List ByteArray) (C : List IPut) (i : Int) (hS : S.length ≤ 1099511627776) (hC : C.length ≤ 1099511627776) : Ev (fun k => impl_ReadSector.f k S C i) (readM S C i) := by
  unfold impl_ReadSector.f readM
  rw [w64 (x := (S.length : Int) - 1) (by omega) (by omega)]
  refine ev_cbind (within_val _ _ _) ?_
  by_cases h : 0 ≤ i ∧ i ≤ (S.length : Int) - 1
  · rw [decide_eq_true h, if_pos h]
    exact ev_pos rfl (ev_pos h.1 (ev_pos (by omega) (impl_read0 C i hC C [] _ rfl)))
  · rw [decide_eq_false h, if_neg h]
    exact ev_neg (by simp) (Ev.now _)
theorem spec_read0 (S : List ByteArray) (C : List IPut) (i : Int) (hi : 0 ≤ i) (hi2 : i < (S.length : Int)) (hC : C.length ≤ 1099511627776) : ∀ (n : Nat), n ≤ C.length →
    Ev (fun k => spec_ReadSector.l0 k i ((n : Int) - 1) S C) (lastPut (C.take n) i (S.getD i.toNat ByteArray.empty), true) := by
  intro n
  induction n with
  | zero =>
    intro _
    refine ev_step ?_
    simp only [spec_ReadSector.l0]
    exact ev_neg (by omega) (ev_pos hi (ev_pos hi2 (Ev.now _)))
  | succ n ih =>
    intro hn
    have h := ih (by omega)
    have e : ((n + 1 : Nat) : Int) - 1 = (n : Int) := by omega
    refine ev_step ?_
    simp only [spec_ReadSector.l0]
    rw [e, w64 (x := (n : Int) - 1) (by omega) (by omega)]
    have hg : rd_T64 C (n : Int) = C[n]'(by omega) := by unfold rd_T64; rw [Int.toNat_natCast, List.getD_eq_getElem?_getD, List.getElem?_eq_getElem (by omega)]; rfl
    rw [hg]
    have ht : C.take (n + 1) = C.take n ++ [C[n]'(by omega)] := by rw [List.take_succ_eq_append_getElem (by omega)]
    refine ev_pos (by omega) (ev_pos (by omega) (ev_pos (by omega) ?_))
    rw [ht]
    unfold lastPut
    rw [List.foldl_append]
    simp only [List.foldl_cons, List.foldl_nil]
    by_cases c : (C[n]'(by omega)).f0 = i
    · rw [if_pos c]
      exact ev_pos c (Ev.now _)
    · rw [if_neg c]
      exact ev_neg c h
theorem spec_read (S : List ByteArray) (C : List IPut) (i : Int) (hS : S.length ≤ 1099511627776) (hC : C.length ≤ 1099511627776) : Ev (fun k => spec_ReadSector.f k S C i) (readM S C i) := by
  unfold spec_ReadSector.f readM
  rw [w64 (x := (S.length : Int) - 1) (by omega) (by omega), w64 (x := (C.length : Int) - 1) (by omega) (by omega)]
  refine ev_cbind (in_val _ _ _) ?_
  by_cases h : 0 ≤ i ∧ i ≤ (S.length : Int) - 1
  · rw [decide_eq_true h, if_pos h]
    refine ev_pos rfl (ev_eq (spec_read0 S C i h.1 (by omega) hC C.length (Nat.le_refl _)) ?_)
    rw [List.take_length]
  · rw [decide_eq_false h, if_neg h]
    exact ev_neg (by simp) (Ev.now _)

/-! the first byte of a sector -/
def firstM (S : List ByteArray) (C : List IPut) (i : Int) : Int := if (readM S C i).2 = true then (if (readM S C i).1.toList = ([] : List UInt8) then 0 else bt (readM S C i).1 0) else 0
theorem size_of_toList {s : ByteArray} (h : ¬ s.toList = ([] : List UInt8)) : 0 < s.size := by
  rcases Nat.eq_zero_or_pos s.size with h0 | h0
  · exfalso
    apply h
    have : s = ⟨#[]⟩ := by
      apply ByteArray.ext
      exact Array.eq_empty_of_size_eq_zero h0
    subst this
    rw [ByteArray.toList_eq]
  · exact h0
theorem firstM_range (S : List ByteArray) (C : List IPut) (i : Int) : 0 ≤ firstM S C i ∧ firstM S C i ≤ 255 := by
  unfold firstM
  split
  · split
    · omega
    · exact bt_range _ _
  · omega
theorem impl_first (S : List ByteArray) (C : List IPut) (i : Int) (hS : S.length ≤ 1099511627776) (hC : C.length ≤ 1099511627776) : Ev (fun k => impl_firstByte.f k S C i) (firstM S C i) := by
  unfold impl_firstByte.f firstM
  refine ev_bind (impl_read S C i hS hC) ?_
  refine ev_if (fun c => ?_) (fun c => ?_)
  · rw [if_pos c]
    refine ev_if (fun c2 => ?_) (fun c2 => ?_)
    · rw [if_pos c2]; exact Ev.now _
    · rw [if_neg c2]
      have h0 := size_of_toList c2
      have := bt_range (readM S C i).1 0
      exact ev_pos (by omega) (ev_now (w64 (by omega) (by omega)))
  · rw [if_neg c]; exact Ev.now _
theorem spec_first (S : List ByteArray) (C : List IPut) (i : Int) (hS : S.length ≤ 1099511627776) (hC : C.length ≤ 1099511627776) : Ev (fun k => spec_l04Byte.f k S C i) (firstM S C i) := by
  unfold spec_l04Byte.f firstM
  refine ev_bind (spec_read S C i hS hC) ?_
  refine ev_if (fun c => ?_) (fun c => ?_)
  · rw [if_pos c]
    refine ev_if (fun c2 => ?_) (fun c2 => ?_)
    · rw [if_pos c2]; exact Ev.now _
    · rw [if_neg c2]
      have h0 := size_of_toList c2
      have := bt_range (readM S C i).1 0
      exact ev_pos (by omega) (ev_now (w64 (by omega) (by omega)))
  · rw [if_neg c]; exact Ev.now _

def areaFirstM (a : Int) : Int := if 0 ≤ a ∧ a ≤ 1 then 1 + a * 48 else 0
theorem impl_areaFirst (a : Int) : impl_AreaFirst.f a = some (areaFirstM a) := by
  unfold impl_AreaFirst.f impl_isArea.f areaFirstM
  by_cases h0 : a = 0
  · subst h0; simp [wrap64]
  · by_cases h1 : a = 1
    · subst h1; simp [wrap64]
    · rw [if_neg h0, if_neg (show ¬ (0 ≤ a ∧ a ≤ 1) by omega)]; simp [h1]
theorem spec_areaFirst (a : Int) : spec_AreaFirst.f a = some (areaFirstM a) := by
  unfold spec_AreaFirst.f areaFirstM
  rw [in_val]
  by_cases h : 0 ≤ a ∧ a ≤ 1
  · rw [decide_eq_true h, if_pos h]
    simp only [Option.bind_some, if_true]
    rw [w64 (x := a * 48) (by omega) (by omega), w64 (by omega) (by omega)]
  · rw [decide_eq_false h, if_neg h]; simp
def countM (S : List ByteArray) (C : List IPut) (a : Int) : Int := if 0 ≤ a ∧ a ≤ 1 then firstM S C (areaFirstM a) else 0
theorem impl_count (S : List ByteArray) (C : List IPut) (a : Int) (hS : S.length ≤ 1099511627776) (hC : C.length ≤ 1099511627776) : Ev (fun k => impl_CountIn.f k S C a) (countM S C a) := by
  unfold impl_CountIn.f countM
  by_cases h : 0 ≤ a ∧ a ≤ 1
  · have e : impl_isArea.f a = some true := by
      unfold impl_isArea.f
      by_cases h0 : a = 0
      · rw [if_pos h0]
      · rw [if_neg h0]; simp; omega
    rw [if_pos h]
    exact ev_cbind e (ev_pos rfl (ev_cbind (impl_areaFirst a) (ev_bind (impl_first S C _ hS hC) (Ev.now _))))
  · have e : impl_isArea.f a = some false := by
      unfold impl_isArea.f
      rw [if_neg (by omega)]; simp; omega
    rw [if_neg h]
    exact ev_cbind e (ev_neg (by simp) (Ev.now _))
theorem spec_count (S : List ByteArray) (C : List IPut) (a : Int) (hS : S.length ≤ 1099511627776) (hC : C.length ≤ 1099511627776) : Ev (fun k => spec_CountIn.f k S C a) (countM S C a) := by
  unfold spec_CountIn.f countM
  refine ev_cbind (in_val _ _ _) ?_
  by_cases h : 0 ≤ a ∧ a ≤ 1
  · rw [decide_eq_true h, if_pos h]
    exact ev_pos rfl (ev_cbind (spec_areaFirst a) (ev_bind (spec_first S C _ hS hC) (Ev.now _)))
  · rw [decide_eq_false h, if_neg h]
    exact ev_neg (by simp) (Ev.now _)

theorem FnExactCountIn (l0_0 : List ByteArray) (l0_1 : List LPut) (a1 : Int) : l0_0.length ≤ 9223372036854775807 → (∀ x ∈ l0_0, x.size ≤ 9223372036854775807) → l0_1.length ≤ 9223372036854775807 → (∀ x ∈ l0_1, (Lit.int .i64 x.f0).wf = true ∧ x.f1.size ≤ 9223372036854775807) → (Lit.int .i64 a1).wf = true → ∃ k, laws_FnExactCountIn.f k l0_0 l0_1 a1 = some true := by
  intro hS hs hC hp ha
  refine ev_at ?_
  unfold laws_FnExactCountIn.f
  obtain ⟨t, ht, hq⟩ := szDisk_ok l0_0 l0_1 1048576 hS hs hC (fun p hm => (hp p hm).2) (by omega) (by omega)
  refine ev_bind ht ?_
  rcases hq with hq | ⟨q1, q2, q3, q4, q5, q6⟩
  · exact ev_pos hq (Ev.now _)
  · have hd := toDisk_ok l0_0 l0_1 q3 q5
    have hm : (l0_1.map toIPut).length = l0_1.length := by simp
    have hz : ∀ p ∈ l0_1.map toIPut, p.f1.size ≤ 1048576 := by
      intro p hp2
      obtain ⟨x, hx, rfl⟩ := List.mem_map.1 hp2
      exact q6 x hx
    generalize l0_1.map toIPut = C at hd hm hz
    have a3 := eqDisk_same l0_0 C (by omega) (by omega)
    have b1 := spec_count l0_0 C a1 (by omega) (by omega)
    have b2 := impl_count l0_0 C a1 (by omega) (by omega)
    exact ev_neg (by omega) (ev_bind hd (ev_bind b1 (ev_bind hd (ev_bind b2 (ev_pos rfl (ev_bind hd (ev_bind a3 (ev_pos rfl (Ev.now _)))))))))

end Go.Proofs.Ytfgjhfoljeaiiaa.Pure
