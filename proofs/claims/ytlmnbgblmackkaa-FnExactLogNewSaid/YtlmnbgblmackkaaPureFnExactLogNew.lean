/- The law FnExactLogNew answers true. Conditions: none. -/
import Derived.Test.YtlmnbgblmackkaaQFnExactLogNewx4
import Derived.Test.YtlmnbgblmackkaaAid
namespace Go.Proofs.Ytlmnbgblmackkaa.QFnExactLogNew
open Go.RowKit Go.Proofs.YtlmnbgblmackkaaW.PrintWords Go.Proofs.YtlmnbgblmackkaaW.PrintLast Go.Proofs.Ytlmnbgblmackkaa.Aid Go.Proofs.Ytlmnbgblmackkaa.Sf
set_option linter.unusedVariables false
abbrev IPut := S88
/-! a list is as itself -/
theorem eqStringS_l (l : List ByteArray) (hl : l.length ≤ 9223372036854775800) : ∀ (rest pre : List ByteArray), l = pre ++ rest → Ev (fun k => laws_eqStringS.l0 k l l (pre.length : Int)) true := by
  intro rest
  induction rest with
  | nil =>
    intro pre e
    refine ev_step ?_
    simp only [laws_eqStringS.l0]
    exact ev_neg (by rw [e]; simp) (Ev.now _)
  | cons x rest ih =>
    intro pre e
    refine ev_step ?_
    simp only [laws_eqStringS.l0]
    have hlt : (pre.length : Int) < (l.length : Int) := by rw [e]; exact len_mid _ _ _
    have h := ih (pre ++ [x]) (by simp [e])
    rw [List.length_append, List.length_singleton] at h
    rw [next64 _ (by omega)]
    exact ev_pos hlt (ev_pos (by omega) (ev_pos hlt (ev_pos (by first | rfl | trivial) h)))
theorem eqStringS_same (l : List ByteArray) (hl : l.length ≤ 9223372036854775800) : Ev (fun k => laws_eqStringS.f k l l) true := by
  unfold laws_eqStringS.f
  exact ev_pos rfl (eqStringS_l l hl l [] rfl)
theorem eqPut_same (x : IPut) : laws_eqPut.f x.f0 x.f1 x.f0 x.f1 = some true := by unfold laws_eqPut.f; rw [if_pos rfl, if_pos rfl]
theorem eqPutS_l (l : List IPut) (hl : l.length ≤ 9223372036854775800) : ∀ (rest pre : List IPut), l = pre ++ rest → Ev (fun k => laws_eqPutS.l0 k l l (pre.length : Int)) true := by
  intro rest
  induction rest with
  | nil =>
    intro pre e
    refine ev_step ?_
    simp only [laws_eqPutS.l0]
    exact ev_neg (by rw [e]; simp) (Ev.now _)
  | cons x rest ih =>
    intro pre e
    refine ev_step ?_
    simp only [laws_eqPutS.l0]
    have hlt : (pre.length : Int) < (l.length : Int) := by rw [e]; exact len_mid _ _ _
    have h := ih (pre ++ [x]) (by simp [e])
    rw [List.length_append, List.length_singleton] at h
    rw [next64 _ (by omega)]
    exact ev_pos hlt (ev_pos (by omega) (ev_pos hlt (ev_cbind (eqPut_same _) (ev_pos rfl h))))
theorem eqPutS_same (l : List IPut) (hl : l.length ≤ 9223372036854775800) : Ev (fun k => laws_eqPutS.f k l l) true := by
  unfold laws_eqPutS.f
  exact ev_pos rfl (eqPutS_l l hl l [] rfl)
theorem eqDisk_same (S : List ByteArray) (C : List IPut) (hS : S.length ≤ 9223372036854775800) (hC : C.length ≤ 9223372036854775800) : Ev (fun k => laws_eqDisk.f k S C S C) true := by
  unfold laws_eqDisk.f
  exact ev_bind (eqStringS_same S hS) (ev_pos rfl (ev_bind (eqPutS_same C hC) (ev_pos rfl (Ev.now _))))

/-! marks -/
theorem markText_l : ∀ (n : Nat) (acc : ByteArray), acc.size + n ≤ 4611686018427387904 → ∃ r, Ev (fun k => laws_markText.l0 k (n : Int) acc) r := by
  intro n
  induction n using Nat.strongRecOn with
  | _ n ih =>
    intro acc hb
    by_cases h : n = 0
    · subst h
      refine ⟨(⟨#[109]⟩ : ByteArray) ++ acc, ev_step ?_⟩
      simp only [laws_markText.l0]
      exact ev_neg (by omega) (ev_pos (by omega) (Ev.now _))
    · have e1 : wrap64 (Int.tdiv (n : Int) 10) = ((n / 10 : Nat) : Int) := by
        rw [show Int.tdiv (n : Int) 10 = ((n / 10 : Nat) : Int) from rfl, w64 (by omega) (by omega)]
      obtain ⟨r, hr⟩ := ih (n / 10) (by omega) (strOfNums [(wrap64 (48 + (Int.tmod (n : Int) 10))) % 256] ++ acc) (by rw [ByteArray.size_append, strOfNums_size]; simp; omega)
      refine ⟨r, ev_step ?_⟩
      simp only [laws_markText.l0]
      rw [e1]
      exact ev_pos (by omega) (ev_cbind rfl (ev_pos (by rw [strOfNums_size]; simp; omega) hr))
theorem markText_ok (n : Int) (h : n ≤ 4611686018427387904) : ∃ r, Ev (fun k => laws_markText.f k n) r := by
  unfold laws_markText.f
  by_cases c : n ≤ 0
  · exact ⟨_, ev_pos c (Ev.now _)⟩
  · obtain ⟨r, hr⟩ := markText_l n.toNat (⟨#[]⟩ : ByteArray) (by show 0 + n.toNat ≤ _; omega)
    rw [Int.toNat_of_nonneg (by omega)] at hr
    exact ⟨r, ev_neg c hr⟩
open Classical in
noncomputable def markT (n : Int) : ByteArray := if h : ∃ r, Ev (fun k => laws_markText.f k n) r then Classical.choose h else ByteArray.empty
theorem markT_ev (n : Int) (h : n ≤ 4611686018427387904) : Ev (fun k => laws_markText.f k n) (markT n) := by
  unfold markT
  rw [dif_pos (markText_ok n h)]
  exact Classical.choose_spec (markText_ok n h)
noncomputable def markL (a : Int) : Nat → List ByteArray
  | 0 => []
  | n + 1 => markT a :: markL (a + 1) n
theorem markL_length (a : Int) (n : Nat) : (markL a n).length = n := by
  induction n generalizing a with
  | zero => rfl
  | succ n ih => simp [markL, ih]
theorem markStringS_l : ∀ (rest pre : List ByteArray) (a : Int), 0 ≤ a → pre.length + rest.length ≤ 1099511627776 → a + rest.length ≤ 4611686018427387900 →
    Ev (fun k => laws_markStringS.l0 k (pre ++ rest) a (pre.length : Int)) (a + rest.length, pre ++ markL a rest.length) := by
  intro rest
  induction rest with
  | nil =>
    intro pre a h0 h1 h2
    refine ev_step ?_
    simp only [laws_markStringS.l0]
    exact ev_neg (by simp) (ev_now (by simp [markL]))
  | cons x rest ih =>
    intro pre a h0 h1 h2
    rw [List.length_cons] at h1 h2
    have h := ih (pre ++ [markT a]) (a + 1) (by omega) (by simp; omega) (by omega)
    rw [List.length_append, List.length_singleton] at h
    refine ev_step ?_
    simp only [laws_markStringS.l0]
    rw [next64 _ (by omega), Int.toNat_natCast, w64 (x := a + 1) (by omega) (by omega)]
    refine ev_pos (len_mid _ _ _) (ev_bind (markT_ev a (by omega)) (ev_pos (by omega) ?_))
    rw [set_mid]
    rw [List.append_assoc, List.append_assoc] at h
    refine ev_eq h ?_
    rw [List.length_cons]
    simp only [markL]
    refine Prod.ext (by simp; omega) rfl
theorem heldStringS_l : ∀ (n : Nat) (pre : List ByteArray) (a : Int), 0 ≤ a → pre.length + n ≤ 1099511627776 → a + n ≤ 4611686018427387900 →
    Ev (fun k => laws_heldStringS.l0 k (pre ++ markL a n) a (pre.length : Int)) (a + n) := by
  intro n
  induction n with
  | zero =>
    intro pre a h0 h1 h2
    refine ev_step ?_
    simp only [laws_heldStringS.l0]
    exact ev_neg (by simp [markL]) (ev_now (by simp))
  | succ n ih =>
    intro pre a h0 h1 h2
    have h := ih (pre ++ [markT a]) (a + 1) (by omega) (by simp; omega) (by omega)
    rw [List.length_append, List.length_singleton, List.append_assoc] at h
    refine ev_step ?_
    simp only [laws_heldStringS.l0]
    have hg : rdOf ByteArray.empty (pre ++ markL a (n + 1)) (pre.length : Int) = markT a := by unfold rdOf; simp only [markL]; rw [Int.toNat_natCast, getD_mid]
    rw [next64 _ (by omega), w64 (x := a + 1) (by omega) (by omega), hg]
    refine ev_pos (by simp only [markL]; exact len_mid _ _ _) (ev_pos (by omega) (ev_bind (markT_ev a (by omega)) (ev_pos rfl (ev_eq h (by omega)))))
theorem strings_marked (S : List ByteArray) (hS : S.length ≤ 1099511627776) : ∃ m S', Ev (fun k => laws_markStringS.f k S 1) (m, S') ∧ 0 ≤ m ∧ Ev (fun k => laws_heldStringS.f k S' 1) m := by
  refine ⟨1 + S.length, markL 1 S.length, ?_, by omega, ?_⟩
  · unfold laws_markStringS.f
    exact markStringS_l S [] 1 (by omega) (by simp; omega) (by omega)
  · unfold laws_heldStringS.f
    exact heldStringS_l S.length [] 1 (by omega) (by simp; omega) (by omega)

noncomputable def markPL (a : Int) : Nat → List IPut
  | 0 => []
  | n + 1 => (⟨a, markT (a + 1)⟩ : IPut) :: markPL (a + 2) n
theorem markPutS_l : ∀ (rest pre : List IPut) (a : Int), 0 ≤ a → pre.length + rest.length ≤ 1099511627776 → a + 2 * rest.length ≤ 4611686018427387900 →
    Ev (fun k => laws_markPutS.l0 k (pre ++ rest) a (pre.length : Int)) (a + 2 * rest.length, pre ++ markPL a rest.length) := by
  intro rest
  induction rest with
  | nil =>
    intro pre a h0 h1 h2
    refine ev_step ?_
    simp only [laws_markPutS.l0]
    exact ev_neg (by simp) (ev_now (by simp [markPL]))
  | cons x rest ih =>
    intro pre a h0 h1 h2
    rw [List.length_cons] at h1 h2
    have h := ih (pre ++ [(⟨a, markT (a + 1)⟩ : IPut)]) (a + 2) (by omega) (by simp; omega) (by omega)
    rw [List.length_append, List.length_singleton] at h
    refine ev_step ?_
    simp only [laws_markPutS.l0]
    rw [next64 _ (by omega), Int.toNat_natCast, w64 (x := a + 1) (by omega) (by omega), w64 (x := a + 1 + 1) (by omega) (by omega)]
    refine ev_pos (len_mid _ _ _) (ev_pos (by omega) (ev_cbind (by rw [set_mid]) ?_))
    refine ev_bind (markT_ev (a + 1) (by omega)) ?_
    have hg : ∀ y : IPut, rd_T88 (pre ++ y :: rest) (pre.length : Int) = y := by intro y; unfold rd_T88; rw [Int.toNat_natCast, getD_mid]
    simp only [hg]
    rw [set_mid]
    rw [List.append_assoc, List.append_assoc] at h
    rw [show a + 1 + 1 = a + 2 from by omega]
    refine ev_eq h ?_
    rw [List.length_cons]
    simp only [markPL]
    refine Prod.ext (by simp; omega) rfl
/-- A disk is marked. -/
theorem disk_marks (S : List ByteArray) (C : List IPut) (hS : S.length ≤ 1099511627776) (hC : C.length ≤ 1099511627776) :
    ∃ m S' C', Ev (fun k => laws_markDisk.f k S C 1) (m, S', C') ∧ 0 ≤ m := by
  refine ⟨1 + S.length + 2 * C.length, markL 1 S.length, markPL (1 + S.length) C.length, ?_, by omega⟩
  unfold laws_markDisk.f laws_markStringS.f laws_markPutS.f
  exact ev_bind (markStringS_l S [] 1 (by omega) (by simp; omega) (by omega)) (ev_bind (markPutS_l C [] (1 + S.length) (by omega) (by simp; omega) (by omega)) (Ev.now _))

theorem heldPutS_l : ∀ (n : Nat) (pre : List IPut) (a : Int), 0 ≤ a → pre.length + n ≤ 1099511627776 → a + 2 * n ≤ 4611686018427387900 →
    Ev (fun k => laws_heldPutS.l0 k (pre ++ markPL a n) a (pre.length : Int)) (a + 2 * n) := by
  intro n
  induction n with
  | zero =>
    intro pre a h0 h1 h2
    refine ev_step ?_
    simp only [laws_heldPutS.l0]
    exact ev_neg (by simp [markPL]) (ev_now (by simp))
  | succ n ih =>
    intro pre a h0 h1 h2
    have h := ih (pre ++ [(⟨a, markT (a + 1)⟩ : IPut)]) (a + 2) (by omega) (by simp; omega) (by omega)
    rw [List.length_append, List.length_singleton, List.append_assoc] at h
    refine ev_step ?_
    simp only [laws_heldPutS.l0]
    have hg : rd_T88 (pre ++ markPL a (n + 1)) (pre.length : Int) = (⟨a, markT (a + 1)⟩ : IPut) := by unfold rd_T88; simp only [markPL]; rw [Int.toNat_natCast, getD_mid]
    rw [next64 _ (by omega), w64 (x := a + 1) (by omega) (by omega), w64 (x := a + 1 + 1) (by omega) (by omega), hg, show a + 1 + 1 = a + 2 from by omega]
    refine ev_pos (by simp only [markPL]; exact len_mid _ _ _) (ev_pos (by omega) (ev_pos rfl (ev_bind (markT_ev (a + 1) (by omega)) (ev_pos rfl (ev_eq h (by omega))))))
/-- A disk is marked, and holds its marks. -/
theorem disk_marked (S : List ByteArray) (C : List IPut) (hS : S.length ≤ 1099511627776) (hC : C.length ≤ 1099511627776) :
    ∃ m S' C', Ev (fun k => laws_markDisk.f k S C 1) (m, S', C') ∧ 0 ≤ m ∧ m ≤ 4398046511105 ∧ Ev (fun k => laws_heldDisk.f k S' C' 1) m := by
  refine ⟨1 + S.length + 2 * C.length, markL 1 S.length, markPL (1 + S.length) C.length, ?_, by omega, by omega, ?_⟩
  · unfold laws_markDisk.f laws_markStringS.f laws_markPutS.f
    exact ev_bind (markStringS_l S [] 1 (by omega) (by simp; omega) (by omega)) (ev_bind (markPutS_l C [] (1 + S.length) (by omega) (by simp; omega) (by omega)) (Ev.now _))
  · unfold laws_heldDisk.f laws_heldStringS.f laws_heldPutS.f
    exact ev_bind (heldStringS_l S.length [] 1 (by omega) (by simp; omega) (by omega)) (ev_neg (by omega) (ev_bind (heldPutS_l C.length [] (1 + S.length) (by omega) (by simp; omega) (by omega)) (ev_neg (by omega) (Ev.now _))))

theorem within_val (a b c : Int) : impl_within.f a b c = some (decide (b ≤ a ∧ a ≤ c)) := by
  unfold impl_within.f
  by_cases h : a ≥ b
  · rw [if_pos h]; congr 1; simp; intro; exact h
  · rw [if_neg h]; congr 1; simp; intro h2; omega
theorem in_val (a b c : Int) : spec_l01In.f a b c = some (decide (b ≤ a ∧ a ≤ c)) := by
  unfold spec_l01In.f
  by_cases h : a ≥ b
  · rw [if_pos h]; congr 1; simp; intro; exact h
  · rw [if_neg h]; congr 1; simp; intro h2; omega

theorem strOfNums_size (x : List Int) : (strOfNums x).size = x.length := by
  show (List.map (fun n : Int => UInt8.ofNat n.toNat) x).toArray.size = _
  simp

/-! long texts of one byte -/
theorem long0 (N : Nat) (x : Int) (hN : N ≤ 1099511627776) : ∀ (m j : Nat), j + m = N → Ev (fun k => spec_l01Long.l0 k (N : Int) x (List.replicate j x ++ List.replicate m 0) (j : Int)) (strOfNums (List.replicate N x))
  | 0, j, e => by
    refine ev_step ?_
    simp only [spec_l01Long.l0]
    obtain rfl : j = N := by omega
    exact ev_neg (by omega) (ev_now (by simp))
  | m + 1, j, e => by
    refine ev_step ?_
    simp only [spec_l01Long.l0]
    have h := long0 N x hN m (j + 1) (by omega)
    have hs : (List.replicate j x ++ List.replicate (m + 1) (0 : Int)).set (j : Int).toNat x = List.replicate (j + 1) x ++ List.replicate m 0 := by
      rw [Int.toNat_natCast, List.set_append_right _ _ (by simp), List.length_replicate, Nat.sub_self, List.replicate_succ, List.set_cons_zero, List.replicate_succ']
      simp
    rw [hs, next64 _ (by omega)]
    exact ev_pos (by omega) (ev_pos (by omega) (ev_pos (by simp; omega) h))
theorem long_ok (N : Nat) (x : Int) (hN : N ≤ 1099511627776) : Ev (fun k => spec_l01Long.f k (N : Int) x) (strOfNums (List.replicate N x)) := by
  unfold spec_l01Long.f
  rw [Int.toNat_natCast]
  have h := long0 N x hN N 0 (by omega)
  exact ev_pos (by omega) (ev_pos (by omega) h)
def zero64 : ByteArray := strOfNums (List.replicate 64 0)
theorem zero64_size : zero64.size = 64 := by rw [zero64, strOfNums_size]; simp
theorem zero_ok : Ev (fun k => spec_l03Zero.f k) zero64 := by
  unfold spec_l03Zero.f
  exact ev_bind (long_ok 64 0 (by omega)) (Ev.now _)
theorem spec_new0 (N : Nat) (hN : N ≤ 100) : ∀ (m j : Nat), j + m = N → Ev (fun k => spec_DiskNew.l0 k (N : Int) (j : Int) (List.replicate j zero64)) (List.replicate N zero64, ([] : List IPut), true)
  | 0, j, e => by
    refine ev_step ?_
    simp only [spec_DiskNew.l0]
    obtain rfl : j = N := by omega
    exact ev_neg (by omega) (Ev.now _)
  | m + 1, j, e => by
    refine ev_step ?_
    simp only [spec_DiskNew.l0]
    have h := spec_new0 N hN m (j + 1) (by omega)
    rw [next64 _ (by omega)]
    rw [List.replicate_succ'] at h
    exact ev_pos (by omega) (ev_bind zero_ok (ev_pos (by simp; omega) h))
theorem spec_new (N : Nat) (h1 : 1 ≤ N) (hN : N ≤ 100) : Ev (fun k => spec_DiskNew.f k (N : Int)) (List.replicate N zero64, ([] : List IPut), true) := by
  unfold spec_DiskNew.f
  exact ev_cbind (in_val _ _ _) (ev_pos (by rw [decide_eq_true_eq]; omega) (spec_new0 N hN N 0 (by omega)))

set_option maxRecDepth 20000 in
theorem repeat_zero : strings_Repeat.f (⟨#[0]⟩ : ByteArray) 64 = some zero64 := by
  unfold strings_Repeat.f
  rw [if_pos (by decide)]
  rfl
theorem impl_new0 (N : Nat) (hN : N ≤ 100) : ∀ (m j : Nat), j + m = N → Ev (fun k => impl_DiskNew.l0 k (N : Int) (j : Int) (List.replicate j zero64)) (List.replicate N zero64, ([] : List IPut), true)
  | 0, j, e => by
    refine ev_step ?_
    simp only [impl_DiskNew.l0]
    obtain rfl : j = N := by omega
    exact ev_neg (by omega) (Ev.now _)
  | m + 1, j, e => by
    refine ev_step ?_
    simp only [impl_DiskNew.l0]
    have h := impl_new0 N hN m (j + 1) (by omega)
    rw [next64 _ (by omega)]
    rw [List.replicate_succ'] at h
    exact ev_pos (by omega) (ev_cbind repeat_zero (ev_pos (by simp; omega) h))
def newM (n : Int) : List ByteArray × List IPut × Bool := if 1 ≤ n ∧ n ≤ 100 then (List.replicate n.toNat zero64, [], true) else ([], [], false)
theorem impl_newM (n : Int) : Ev (fun k => impl_DiskNew.f k n) (newM n) := by
  unfold impl_DiskNew.f newM
  refine ev_cbind (within_val _ _ _) ?_
  by_cases c : 1 ≤ n ∧ n ≤ 100
  · rw [if_pos c]
    have h := impl_new0 n.toNat (by omega) n.toNat 0 (by omega)
    rw [Int.toNat_of_nonneg (by omega)] at h
    exact ev_pos (decide_eq_true c) h
  · rw [if_neg c]
    exact ev_neg (by rw [decide_eq_true_eq]; exact c) (Ev.now _)
theorem newM_lens (n : Int) : (newM n).1.length ≤ 100 ∧ (newM n).2.1.length ≤ 100 := by
  unfold newM
  split
  · exact ⟨by show (List.replicate _ _).length ≤ 100; rw [List.length_replicate]; omega, Nat.zero_le _⟩
  · exact ⟨Nat.zero_le _, Nat.zero_le _⟩

theorem spec_newM (n : Int) : Ev (fun k => spec_DiskNew.f k n) (newM n) := by
  unfold newM
  by_cases c : 1 ≤ n ∧ n ≤ 100
  · rw [if_pos c]
    have h := spec_new n.toNat (by omega) (by omega)
    rw [Int.toNat_of_nonneg (by omega)] at h
    exact h
  · rw [if_neg c]
    unfold spec_DiskNew.f
    exact ev_cbind (in_val _ _ _) (ev_neg (by rw [decide_eq_true_eq]; exact c) (Ev.now _))

theorem logNew : Ev (fun k => laws_FnExactLogNew.f k) true := by
  unfold laws_FnExactLogNew.f
  have b1 : Ev (fun k => spec_LogNew.f k) ((newM 97).1, (newM 97).2.1) := by
    unfold spec_LogNew.f
    exact ev_cbind rfl (ev_bind (spec_newM 97) (Ev.now _))
  have b2 : Ev (fun k => impl_LogNew.f k) ((newM 97).1, (newM 97).2.1) := by
    unfold impl_LogNew.f
    exact ev_bind (impl_newM 97) (Ev.now _)
  have hl := newM_lens 97
  generalize (newM 97).1 = r1 at b1 b2 hl
  generalize (newM 97).2.1 = r2 at b1 b2 hl
  have hl1 : r1.length ≤ 100 := hl.1
  have hl2 : r2.length ≤ 100 := hl.2
  have c3 := eqDisk_same r1 r2 (by omega) (by omega)
  obtain ⟨m2, S2, C2, e2, p2, _, f2⟩ := disk_marked r1 r2 (by omega) (by omega)
  exact ev_bind b1 (ev_bind b2 (ev_bind c3 (ev_pos rfl (ev_bind e2 (ev_bind f2 (ev_neg (by omega) (ev_pos (by first | rfl | trivial) (ev_bind b2 (ev_bind c3 (ev_pos rfl (ev_bind f2 (ev_neg (by omega) (ev_pos (by first | rfl | trivial) (Ev.now _))))))))))))))
theorem holds : laws_FnExactLogNew.Pure := ev_at logNew
end Go.Proofs.Ytlmnbgblmackkaa.QFnExactLogNew
namespace Go.Proofs.Ytlmnbgblmackkaa.Pure
theorem FnExactLogNew : QFnExactLogNew.laws_FnExactLogNew.Pure := QFnExactLogNew.holds
end Go.Proofs.Ytlmnbgblmackkaa.Pure
