/- The law FnTorn answers true at every draw. Conditions: the draw's length as the row gives it. -/
import Derived.Test.YtfgjhfoljeaiiaaQFnTornx10
import Derived.Test.YtfgjhfoljeaiiaaAid
namespace Go.Proofs.Ytfgjhfoljeaiiaa.QFnTorn
open Go.RowKit Go.Proofs.YtfgjhfoljeaiiaaW.PrintWords Go.Proofs.YtfgjhfoljeaiiaaW.PrintLast Go.Proofs.Ytfgjhfoljeaiiaa.Aid
set_option linter.unusedVariables false
abbrev IPut := S64
theorem within_val (a b c : Int) : impl_within.f a b c = some (decide (b ≤ a ∧ a ≤ c)) := by
  unfold impl_within.f
  by_cases h : a ≥ b
  · rw [if_pos h]; congr 1; simp; intro; exact h
  · rw [if_neg h]; congr 1; simp; intro h2; omega
theorem in_val (a b c : Int) : spec_l01In.f a b c = some (decide (b ≤ a ∧ a ≤ c)) := by
  unfold spec_l01In.f
  by_cases h : a ≥ b
  · rw [if_pos h]; congr 1; simp; intro; exact h
  · rw [if_neg h]; congr 1; simp; intro h2; omega

/-! a sector is read -/
def lastPut (C : List IPut) (i : Int) (d : ByteArray) : ByteArray := C.foldl (fun t p => if p.f0 = i then p.f1 else t) d
def readM (S : List ByteArray) (C : List IPut) (i : Int) : ByteArray × Bool := if 0 ≤ i ∧ i ≤ (S.length : Int) - 1 then (lastPut C i (S.getD i.toNat ByteArray.empty), true) else ((⟨#[]⟩ : ByteArray), false)
theorem spec_read0 (S : List ByteArray) (C : List IPut) (i : Int) (hi : 0 ≤ i) (hi2 : i < (S.length : Int)) (hC : C.length ≤ 1099511627776) : ∀ (n : Nat), n ≤ C.length →
    Ev (fun k => spec_ReadSector.l0 k i ((n : Int) - 1) S C) (lastPut (C.take n) i (S.getD i.toNat ByteArray.empty), true) := by
  intro n
  induction n with
  | zero =>
    intro _
    refine ev_step ?_
    simp only [spec_ReadSector.l0]
    exact ev_neg (by omega) (ev_pos hi (ev_pos hi2 (Ev.now _)))
  | succ n ih =>
    intro hn
    have h := ih (by omega)
    have e : ((n + 1 : Nat) : Int) - 1 = (n : Int) := by omega
    refine ev_step ?_
    simp only [spec_ReadSector.l0]
    rw [e, w64 (x := (n : Int) - 1) (by omega) (by omega)]
    have hg : rd_T64 C (n : Int) = C[n]'(by omega) := by unfold rd_T64; rw [Int.toNat_natCast, List.getD_eq_getElem?_getD, List.getElem?_eq_getElem (by omega)]; rfl
    rw [hg]
    have ht : C.take (n + 1) = C.take n ++ [C[n]'(by omega)] := by rw [List.take_succ_eq_append_getElem (by omega)]
    refine ev_pos (by omega) (ev_pos (by omega) (ev_pos (by omega) ?_))
    rw [ht]
    unfold lastPut
    rw [List.foldl_append]
    simp only [List.foldl_cons, List.foldl_nil]
    by_cases c : (C[n]'(by omega)).f0 = i
    · rw [if_pos c]
      exact ev_pos c (Ev.now _)
    · rw [if_neg c]
      exact ev_neg c h
theorem spec_read (S : List ByteArray) (C : List IPut) (i : Int) (hS : S.length ≤ 1099511627776) (hC : C.length ≤ 1099511627776) : Ev (fun k => spec_ReadSector.f k S C i) (readM S C i) := by
  unfold spec_ReadSector.f readM
  rw [w64 (x := (S.length : Int) - 1) (by omega) (by omega), w64 (x := (C.length : Int) - 1) (by omega) (by omega)]
  refine ev_cbind (in_val _ _ _) ?_
  by_cases h : 0 ≤ i ∧ i ≤ (S.length : Int) - 1
  · rw [decide_eq_true h, if_pos h]
    refine ev_pos rfl (ev_eq (spec_read0 S C i h.1 (by omega) hC C.length (Nat.le_refl _)) ?_)
    rw [List.take_length]
  · rw [decide_eq_false h, if_neg h]
    exact ev_neg (by simp) (Ev.now _)

/-! a disk is right -/
def goodP (n : Nat) (p : IPut) : Bool := decide ((0 ≤ p.f0 ∧ p.f0 ≤ (n : Int) - 1) ∧ (p.f1.size : Int) = 64)
def goodS (s : ByteArray) : Bool := decide ((s.size : Int) = 64)
def lensOk (S : List ByteArray) (C : List IPut) : Bool := decide ((1 : Int) ≤ S.length ∧ (S.length : Int) ≤ 100) && decide ((C.length : Int) ≤ 60)
def diskOkM (S : List ByteArray) (C : List IPut) : Bool := S.all goodS && (C.all (goodP S.length) && lensOk S C)
theorem diskOk_iff (S : List ByteArray) (C : List IPut) : diskOkM S C = true ↔ (1 ≤ S.length ∧ S.length ≤ 100 ∧ C.length ≤ 60 ∧ (∀ s ∈ S, s.size = 64) ∧ ∀ p ∈ C, 0 ≤ p.f0 ∧ p.f0 < (S.length : Int) ∧ p.f1.size = 64) := by
  unfold diskOkM lensOk
  simp only [Bool.and_eq_true, List.all_eq_true, goodS, goodP, decide_eq_true_eq]
  constructor
  · rintro ⟨h1, h2, ⟨h3, h4⟩, h5⟩
    refine ⟨by omega, by omega, by omega, fun s hs => by have := h1 s hs; omega, fun p hp => ?_⟩
    have := h2 p hp
    omega
  · rintro ⟨h1, h2, h3, h4, h5⟩
    refine ⟨fun s hs => by have := h4 s hs; omega, fun p hp => ?_, ⟨by omega, by omega⟩, by omega⟩
    have := h5 p hp
    omega
theorem impl_ok1 (S : List ByteArray) (C : List IPut) (hS : S.length ≤ 1099511627776) (hC : C.length ≤ 1099511627776) : ∀ (rest pre : List IPut), C = pre ++ rest →
    Ev (fun k => impl_DiskOk.l1 k C (C.length : Int) (pre.length : Int) S C) (rest.all (goodP S.length) && lensOk S C) := by
  intro rest
  induction rest with
  | nil =>
    intro pre e
    refine ev_step ?_
    simp only [impl_DiskOk.l1]
    refine ev_neg (by rw [e]; simp) (ev_cbind (within_val _ _ _) ?_)
    unfold lensOk
    by_cases h : (1 : Int) ≤ S.length ∧ (S.length : Int) ≤ 100
    · rw [decide_eq_true h]; exact ev_pos rfl (ev_now (by simp))
    · rw [decide_eq_false h]; exact ev_neg (by simp) (ev_now (by simp))
  | cons p rest ih =>
    intro pre e
    have hg : rd_T64 C (pre.length : Int) = p := by unfold rd_T64; rw [Int.toNat_natCast, e, getD_mid]
    have hlt : (pre.length : Int) < (C.length : Int) := by rw [e]; exact len_mid _ _ _
    have h := ih (pre ++ [p]) (by simp [e])
    rw [List.length_append, List.length_singleton] at h
    refine ev_step ?_
    simp only [impl_DiskOk.l1]
    rw [hg, next64 _ (by omega), w64 (x := (S.length : Int) - 1) (by omega) (by omega)]
    refine ev_pos hlt (ev_pos (by omega) (ev_pos hlt (ev_cbind (within_val _ _ _) ?_)))
    rw [List.all_cons]
    unfold goodP
    by_cases h1 : 0 ≤ p.f0 ∧ p.f0 ≤ (S.length : Int) - 1
    · rw [decide_eq_true h1]
      by_cases h2 : (p.f1.size : Int) = 64
      · refine ev_pos rfl (ev_pos h2 (ev_eq h ?_))
        rw [decide_eq_true (⟨h1, h2⟩ : (0 ≤ p.f0 ∧ p.f0 ≤ (S.length : Int) - 1) ∧ (p.f1.size : Int) = 64), Bool.true_and]
        rfl
      · refine ev_pos rfl (ev_neg h2 (ev_now ?_))
        rw [decide_eq_false (fun h => h2 h.2)]; rfl
    · rw [decide_eq_false h1]
      refine ev_neg (by simp) (ev_now ?_)
      rw [decide_eq_false (fun h => h1 h.1)]; rfl
theorem impl_ok0 (S : List ByteArray) (C : List IPut) (hS : S.length ≤ 1099511627776) (hC : C.length ≤ 1099511627776) : ∀ (rest pre : List ByteArray), S = pre ++ rest →
    Ev (fun k => impl_DiskOk.l0 k S (S.length : Int) (pre.length : Int) S C) (rest.all goodS && (C.all (goodP S.length) && lensOk S C)) := by
  intro rest
  induction rest with
  | nil =>
    intro pre e
    refine ev_step ?_
    simp only [impl_DiskOk.l0]
    refine ev_neg (by rw [e]; simp) (ev_eq (impl_ok1 S C hS hC C [] rfl) ?_)
    rw [List.all_nil, Bool.true_and]
  | cons s rest ih =>
    intro pre e
    have hg : rdOf ByteArray.empty S (pre.length : Int) = s := by unfold rdOf; rw [Int.toNat_natCast, e, getD_mid]
    have hlt : (pre.length : Int) < (S.length : Int) := by rw [e]; exact len_mid _ _ _
    have h := ih (pre ++ [s]) (by simp [e])
    rw [List.length_append, List.length_singleton] at h
    refine ev_step ?_
    simp only [impl_DiskOk.l0]
    rw [hg, next64 _ (by omega)]
    refine ev_pos hlt (ev_pos (by omega) (ev_pos hlt ?_))
    rw [List.all_cons]
    unfold goodS
    by_cases h2 : (s.size : Int) = 64
    · refine ev_pos h2 (ev_eq h ?_)
      rw [decide_eq_true h2, Bool.true_and]
      rfl
    · refine ev_neg h2 (ev_now ?_)
      rw [decide_eq_false h2]; rfl
theorem impl_diskOk (S : List ByteArray) (C : List IPut) (hS : S.length ≤ 1099511627776) (hC : C.length ≤ 1099511627776) : Ev (fun k => impl_DiskOk.f k S C) (diskOkM S C) := impl_ok0 S C hS hC S [] rfl
theorem spec_ok1 (S : List ByteArray) (C : List IPut) (hS : S.length ≤ 1099511627776) (hC : C.length ≤ 1099511627776) : ∀ (rest pre : List IPut), C = pre ++ rest →
    Ev (fun k => spec_DiskOk.l1 k (pre.length : Int) S C) (rest.all (goodP S.length)) := by
  intro rest
  induction rest with
  | nil =>
    intro pre e
    refine ev_step ?_
    simp only [spec_DiskOk.l1]
    exact ev_neg (by rw [e]; simp) (Ev.now _)
  | cons p rest ih =>
    intro pre e
    have hg : rd_T64 C (pre.length : Int) = p := by unfold rd_T64; rw [Int.toNat_natCast, e, getD_mid]
    have hlt : (pre.length : Int) < (C.length : Int) := by rw [e]; exact len_mid _ _ _
    have h := ih (pre ++ [p]) (by simp [e])
    rw [List.length_append, List.length_singleton] at h
    refine ev_step ?_
    simp only [spec_DiskOk.l1]
    rw [hg, next64 _ (by omega), w64 (x := (S.length : Int) - 1) (by omega) (by omega)]
    refine ev_pos hlt (ev_pos (by omega) (ev_cbind (in_val _ _ _) ?_))
    rw [List.all_cons]
    unfold goodP
    by_cases h1 : 0 ≤ p.f0 ∧ p.f0 ≤ (S.length : Int) - 1
    · rw [decide_eq_true h1]
      by_cases h2 : (p.f1.size : Int) = 64
      · refine ev_pos rfl (ev_pos h2 (ev_eq h ?_))
        rw [decide_eq_true (⟨h1, h2⟩ : (0 ≤ p.f0 ∧ p.f0 ≤ (S.length : Int) - 1) ∧ (p.f1.size : Int) = 64), Bool.true_and]
        rfl
      · refine ev_pos rfl (ev_neg h2 (ev_now ?_))
        rw [decide_eq_false (fun h => h2 h.2)]; rfl
    · rw [decide_eq_false h1]
      refine ev_neg (by simp) (ev_now ?_)
      rw [decide_eq_false (fun h => h1 h.1)]; rfl
theorem spec_ok0 (S : List ByteArray) (C : List IPut) (hS : S.length ≤ 1099511627776) (hC : C.length ≤ 1099511627776) : ∀ (rest pre : List ByteArray), S = pre ++ rest →
    Ev (fun k => spec_DiskOk.l0 k (pre.length : Int) S C) (rest.all goodS && C.all (goodP S.length)) := by
  intro rest
  induction rest with
  | nil =>
    intro pre e
    refine ev_step ?_
    simp only [spec_DiskOk.l0]
    refine ev_neg (by rw [e]; simp) (ev_eq (spec_ok1 S C hS hC C [] rfl) ?_)
    rw [List.all_nil, Bool.true_and]
  | cons s rest ih =>
    intro pre e
    have hg : rdOf ByteArray.empty S (pre.length : Int) = s := by unfold rdOf; rw [Int.toNat_natCast, e, getD_mid]
    have hlt : (pre.length : Int) < (S.length : Int) := by rw [e]; exact len_mid _ _ _
    have h := ih (pre ++ [s]) (by simp [e])
    rw [List.length_append, List.length_singleton] at h
    refine ev_step ?_
    simp only [spec_DiskOk.l0]
    rw [hg, next64 _ (by omega)]
    refine ev_pos hlt (ev_pos (by omega) ?_)
    rw [List.all_cons]
    unfold goodS
    by_cases h2 : (s.size : Int) = 64
    · refine ev_pos h2 (ev_eq h ?_)
      rw [decide_eq_true h2, Bool.true_and]
      rfl
    · refine ev_neg h2 (ev_now ?_)
      rw [decide_eq_false h2]; rfl
theorem spec_diskOk (S : List ByteArray) (C : List IPut) (hS : S.length ≤ 1099511627776) (hC : C.length ≤ 1099511627776) : Ev (fun k => spec_DiskOk.f k S C) (diskOkM S C) := by
  unfold spec_DiskOk.f diskOkM lensOk
  refine ev_cbind (in_val _ _ _) ?_
  by_cases h1 : (1 : Int) ≤ S.length ∧ (S.length : Int) ≤ 100
  · rw [decide_eq_true h1]
    refine ev_pos rfl (ev_step ?_)
    simp only [spec_DiskOk.j0]
    by_cases h2 : (C.length : Int) > 60
    · rw [decide_eq_true h2]
      refine ev_pos rfl (ev_now ?_)
      rw [decide_eq_false (show ¬ (C.length : Int) ≤ 60 by omega)]; simp
    · rw [decide_eq_false h2]
      refine ev_neg (by simp) (ev_eq (spec_ok0 S C hS hC S [] rfl) ?_)
      rw [decide_eq_true (show (C.length : Int) ≤ 60 by omega)]; simp
  · rw [decide_eq_false h1]
    refine ev_neg (by simp) (ev_step ?_)
    simp only [spec_DiskOk.j0]
    exact ev_pos (by first | rfl | trivial) (ev_now (by simp))

theorem impl_copy (S : List ByteArray) (C : List IPut) (hS : S.length ≤ 1099511627776) (hC : C.length ≤ 1099511627776) : impl_copyDisk.f S C = some (S, C) := by
  unfold impl_copyDisk.f
  rw [if_pos (by simp; omega), if_pos (by simp; omega), List.nil_append, List.nil_append]
theorem spec_copy (S : List ByteArray) (C : List IPut) (hS : S.length ≤ 1099511627776) (hC : C.length ≤ 1099511627776) : spec_l03Copy.f S C = some (S, C) := by
  unfold spec_l03Copy.f
  simp only [Option.bind_some]
  rw [if_pos (by simp; omega), if_pos (by simp; omega), List.nil_append, List.nil_append]

def writeM (S : List ByteArray) (C : List IPut) (i : Int) (s : ByteArray) : List ByteArray × List IPut × Bool :=
  if diskOkM S (C ++ [(⟨i, s⟩ : IPut)]) = true then (S, C ++ [(⟨i, s⟩ : IPut)], true) else (S, C, false)
theorem impl_write (S : List ByteArray) (C : List IPut) (i : Int) (s : ByteArray) (hS : S.length ≤ 1099511627775) (hC : C.length ≤ 1099511627775) : Ev (fun k => impl_WriteSector.f k S C i s) (writeM S C i s) := by
  unfold impl_WriteSector.f writeM
  have a := impl_diskOk S (C ++ [(⟨i, s⟩ : IPut)]) (by omega) (by simp; omega)
  have c := impl_copy S C (by omega) (by omega)
  refine ev_cbind c (ev_pos (by show C.length < _; omega) (ev_cbind rfl (ev_bind a (ev_if (fun h => ?_) (fun h => ?_)))))
  · rw [if_pos h]; exact Ev.now _
  · rw [if_neg h]; exact ev_cbind c (Ev.now _)
theorem diskOk_snoc (S : List ByteArray) (C : List IPut) (i : Int) (s : ByteArray) : diskOkM S (C ++ [(⟨i, s⟩ : IPut)]) = true ↔ (diskOkM S C = true ∧ (0 ≤ i ∧ i ≤ (S.length : Int) - 1) ∧ (s.size : Int) = 64 ∧ ¬ (C.length : Int) ≥ 60) := by
  rw [diskOk_iff, diskOk_iff]
  constructor
  · rintro ⟨h1, h2, h3, h4, h5⟩
    rw [List.length_append, List.length_singleton] at h3
    have h6 : 0 ≤ i ∧ i < (S.length : Int) ∧ s.size = 64 := h5 ⟨i, s⟩ (by simp)
    exact ⟨⟨h1, h2, by omega, h4, fun p hp => h5 p (by simp [hp])⟩, ⟨by omega, by omega⟩, by omega, by omega⟩
  · rintro ⟨⟨h1, h2, h3, h4, h5⟩, h6, h7, h8⟩
    refine ⟨h1, h2, by rw [List.length_append, List.length_singleton]; omega, h4, fun p hp => ?_⟩
    rcases List.mem_append.1 hp with hp | hp
    · exact h5 p hp
    · rw [List.mem_singleton] at hp
      subst hp
      exact ⟨h6.1, by show i < _; omega, by show s.size = 64; omega⟩
theorem spec_write (S : List ByteArray) (C : List IPut) (i : Int) (s : ByteArray) (hS : S.length ≤ 1099511627775) (hC : C.length ≤ 1099511627775) : Ev (fun k => spec_WriteSector.f k S C i s) (writeM S C i s) := by
  unfold spec_WriteSector.f writeM
  have a := spec_diskOk S C (by omega) (by omega)
  have c := spec_copy S C (by omega) (by omega)
  have e := diskOk_snoc S C i s
  rw [w64 (x := (S.length : Int) - 1) (by omega) (by omega)]
  refine ev_cbind c (ev_bind a (ev_if (fun h1 => ev_cbind (in_val _ _ _) (ev_if (fun h2 => ?_) (fun h2 => ?_))) (fun h1 => ?_)))
  · rw [decide_eq_true_eq] at h2
    refine ev_if (fun h3 => ev_if (fun h4 => ?_) (fun h4 => ?_)) (fun h3 => ?_)
    · rw [if_neg (fun h => (e.1 h).2.2.2 h4)]; exact Ev.now _
    · rw [if_pos (e.2 ⟨h1, h2, h3, h4⟩)]
      exact ev_pos (by show C.length < _; omega) (Ev.now _)
    · rw [if_neg (fun h => h3 (e.1 h).2.2.1)]; exact Ev.now _
  · rw [if_neg (fun h => h2 (decide_eq_true (e.1 h).2.1))]; exact Ev.now _
  · rw [if_neg (fun h => h1 (e.1 h).1)]; exact Ev.now _

def putAll (S : List ByteArray) (C : List IPut) : List ByteArray := C.foldl (fun s p => s.set p.f0.toNat p.f1) S
def flushM (S : List ByteArray) (C : List IPut) : List ByteArray × List IPut := if diskOkM S C = true then (putAll S C, []) else (S, C)
theorem impl_flush0 (C : List IPut) (hC : C.length ≤ 1099511627776) (n : Nat) (hg : ∀ p ∈ C, 0 ≤ p.f0 ∧ p.f0 < (n : Int)) (D : List IPut) : ∀ (rest pre : List IPut) (S : List ByteArray), C = pre ++ rest → S.length = n →
    Ev (fun k => impl_FlushDisk.l0 k C (C.length : Int) (pre.length : Int) S D) (putAll S rest, ([] : List IPut)) := by
  intro rest
  induction rest with
  | nil =>
    intro pre S e hS
    refine ev_step ?_
    simp only [impl_FlushDisk.l0]
    exact ev_neg (by rw [e]; simp) (Ev.now _)
  | cons p rest ih =>
    intro pre S e hS
    have hg2 : rd_T64 C (pre.length : Int) = p := by unfold rd_T64; rw [Int.toNat_natCast, e, getD_mid]
    have hlt : (pre.length : Int) < (C.length : Int) := by rw [e]; exact len_mid _ _ _
    have hp := hg p (by rw [e]; simp)
    have h := ih (pre ++ [p]) (S.set p.f0.toNat p.f1) (by simp [e]) (by simp [hS])
    rw [List.length_append, List.length_singleton] at h
    refine ev_step ?_
    simp only [impl_FlushDisk.l0]
    rw [hg2, next64 _ (by omega)]
    exact ev_pos hlt (ev_pos (by omega) (ev_pos hlt (ev_pos hp.1 (ev_pos (by rw [hS]; exact hp.2) h))))
theorem impl_flush (S : List ByteArray) (C : List IPut) (hS : S.length ≤ 1099511627776) (hC : C.length ≤ 1099511627776) : Ev (fun k => impl_FlushDisk.f k S C) (flushM S C) := by
  unfold impl_FlushDisk.f flushM
  refine ev_cbind (impl_copy S C hS hC) (ev_bind (impl_diskOk S C hS hC) (ev_if (fun h => ?_) (fun h => ?_)))
  · rw [if_pos h]
    have hg := (diskOk_iff S C).1 h
    exact impl_flush0 C hC S.length (fun p hp => ⟨(hg.2.2.2.2 p hp).1, (hg.2.2.2.2 p hp).2.1⟩) C C [] S rfl rfl
  · rw [if_neg h]; exact Ev.now _
theorem spec_flush0 (C : List IPut) (hC : C.length ≤ 1099511627776) (n : Nat) (hg : ∀ p ∈ C, 0 ≤ p.f0 ∧ p.f0 < (n : Int)) (S0 : List ByteArray) (D : List IPut) : ∀ (rest pre : List IPut) (S : List ByteArray), C = pre ++ rest → S.length = n →
    Ev (fun k => spec_FlushDisk.l0 k (pre.length : Int) S0 C S D) (putAll S rest, ([] : List IPut)) := by
  intro rest
  induction rest with
  | nil =>
    intro pre S e hS
    refine ev_step ?_
    simp only [spec_FlushDisk.l0]
    exact ev_neg (by rw [e]; simp) (Ev.now _)
  | cons p rest ih =>
    intro pre S e hS
    have hg2 : rd_T64 C (pre.length : Int) = p := by unfold rd_T64; rw [Int.toNat_natCast, e, getD_mid]
    have hlt : (pre.length : Int) < (C.length : Int) := by rw [e]; exact len_mid _ _ _
    have hp := hg p (by rw [e]; simp)
    have h := ih (pre ++ [p]) (S.set p.f0.toNat p.f1) (by simp [e]) (by simp [hS])
    rw [List.length_append, List.length_singleton] at h
    refine ev_step ?_
    simp only [spec_FlushDisk.l0]
    rw [hg2, next64 _ (by omega)]
    exact ev_pos hlt (ev_pos (by omega) (ev_pos hp.1 (ev_pos (by rw [hS]; exact hp.2) h)))
theorem spec_flush (S : List ByteArray) (C : List IPut) (hS : S.length ≤ 1099511627776) (hC : C.length ≤ 1099511627776) : Ev (fun k => spec_FlushDisk.f k S C) (flushM S C) := by
  unfold spec_FlushDisk.f flushM
  refine ev_cbind (spec_copy S C hS hC) (ev_bind (spec_diskOk S C hS hC) (ev_if (fun h => ?_) (fun h => ?_)))
  · rw [if_pos h]
    have hg := (diskOk_iff S C).1 h
    exact spec_flush0 C hC S.length (fun p hp => ⟨(hg.2.2.2.2 p hp).1, (hg.2.2.2.2 p hp).2.1⟩) S C C [] S rfl rfl
  · rw [if_neg h]; exact Ev.now _
theorem putAll_length (S : List ByteArray) (C : List IPut) : (putAll S C).length = S.length := by
  unfold putAll
  induction C generalizing S with
  | nil => rfl
  | cons p C ih => rw [List.foldl_cons, ih]; simp
theorem flush_lens (S : List ByteArray) (C : List IPut) : (flushM S C).1.length = S.length ∧ (flushM S C).2.length ≤ C.length := by
  unfold flushM
  split
  · exact ⟨putAll_length S C, by simp⟩
  · exact ⟨rfl, Nat.le_refl _⟩

/-! a disk that crashes -/
def keptB (K : List Int) (i : Nat) : Bool := decide ((i : Int) < (K.length : Int)) && !decide (Int.tmod (rd K (i : Int)) 2 = 0)
def lastC (K : List Int) : Nat → Nat → Int → Int
  | 0, _, x => x
  | m + 1, i, x => lastC K m (i + 1) (if keptB K i = true then (i : Int) else x)
theorem lastC_off (K : List Int) : ∀ (m i : Nat) (x : Int), K.length ≤ i → lastC K m i x = x
  | 0, _, _, _ => rfl
  | m + 1, i, x, h => by
    have h1 : keptB K i = false := by unfold keptB; rw [decide_eq_false (by omega), Bool.false_and]
    rw [lastC, h1, if_neg (by simp)]
    exact lastC_off K m (i + 1) x (by omega)
theorem lastC_told (K : List Int) : ∀ (m i : Nat) (x : Int), (lastC K m i x = x ∧ ∀ j, i ≤ j → j < i + m → keptB K j = false) ∨ ∃ j : Nat, i ≤ j ∧ j < i + m ∧ lastC K m i x = (j : Int) ∧ keptB K j = true ∧ ∀ q, j < q → q < i + m → keptB K q = false
  | 0, i, x => .inl ⟨rfl, fun j h1 h2 => by omega⟩
  | m + 1, i, x => by
    rw [lastC]
    rcases lastC_told K m (i + 1) (if keptB K i = true then (i : Int) else x) with ⟨e, h⟩ | ⟨j, h1, h2, e, h3, h4⟩
    · by_cases c : keptB K i = true
      · rw [if_pos c] at e ⊢
        exact .inr ⟨i, Nat.le_refl _, by omega, e, c, fun q hq hq2 => h q (by omega) (by omega)⟩
      · rw [if_neg c] at e ⊢
        refine .inl ⟨e, fun j h1 h2 => ?_⟩
        by_cases hj : j = i
        · rw [hj]; simpa using c
        · exact h j (by omega) (by omega)
    · exact .inr ⟨j, by omega, by omega, e, h3, fun q hq hq2 => h4 q hq (by omega)⟩
def tornM (p : IPut) (n : Int) (A : List ByteArray) : ByteArray := p.f1.extract 0 n.toNat ++ (rdOf ByteArray.empty A p.f0).extract n.toNat (rdOf ByteArray.empty A p.f0).size
def stepC (K : List Int) (last n : Int) (i : Nat) (p : IPut) (A : List ByteArray) : List ByteArray := if (i : Int) = last then A.set p.f0.toNat (tornM p n A) else if keptB K i = true then A.set p.f0.toNat p.f1 else A
def crashC (K : List Int) (last n : Int) : Nat → List IPut → List ByteArray → List ByteArray
  | _, [], A => A
  | i, p :: C, A => crashC K last n (i + 1) C (stepC K last n i p A)
def tearM (t : Int) : Int := if Int.tmod t 65 < 0 then Int.tmod t 65 + 65 else Int.tmod t 65
theorem tearM_in (t : Int) : 0 ≤ tearM t ∧ tearM t ≤ 64 := by
  unfold tearM
  have h1 := Int.tmod_lt_of_pos t (show (0 : Int) < 65 by decide)
  have h2 : -65 < Int.tmod t 65 := by
    rcases Int.le_total 0 t with h | h
    · have := Int.tmod_nonneg 65 h; omega
    · have h3 : Int.tmod (-t) 65 = -Int.tmod t 65 := Int.neg_tmod ..
      have h4 := Int.tmod_lt_of_pos (-t) (show (0 : Int) < 65 by decide)
      omega
  split <;> omega
def crashM (S : List ByteArray) (C : List IPut) (K : List Int) (t : Int) : List ByteArray × List IPut := if diskOkM S C = true then (crashC K (lastC K C.length 0 (-1)) (tearM t) 0 C S, []) else (S, C)
theorem torn_size (p : IPut) (n : Int) (A : List ByteArray) (h0 : 0 ≤ n) (h1 : n ≤ 64) (hp : p.f1.size = 64) (ha : (rdOf ByteArray.empty A p.f0).size = 64) : (tornM p n A).size = 64 := by
  unfold tornM
  rw [ByteArray.size_append, ByteArray.size_extract, ByteArray.size_extract, hp, ha]
  omega
theorem wrap_tear (t : Int) (h : Int.tmod t 65 < 0) : wrap64 (Int.tmod t 65 + 65) = tearM t ∧ wrap64 (wrap64 (Int.tmod t 65 + 64) + 1) = tearM t := by
  have hb := tearM_in t
  unfold tearM at hb ⊢
  rw [if_pos h] at hb ⊢
  rw [w64 (x := Int.tmod t 65 + 65) (by omega) (by omega), w64 (x := Int.tmod t 65 + 64) (by omega) (by omega), w64 (by omega) (by omega)]
  exact ⟨rfl, by omega⟩
theorem goodSet (A : List ByteArray) (n : Nat) (s : ByteArray) (hA : ∀ a ∈ A, a.size = 64) (hs : s.size = 64) : ∀ a ∈ A.set n s, a.size = 64 := fun a ha => by
  rcases List.mem_or_eq_of_mem_set ha with h | rfl
  · exact hA a h
  · exact hs
theorem rdOf_good (A : List ByteArray) (i : Int) (hA : ∀ a ∈ A, a.size = 64) (h0 : 0 ≤ i) (h1 : i < (A.length : Int)) : (rdOf ByteArray.empty A i).size = 64 := by
  unfold rdOf
  have h2 : i.toNat < A.length := by omega
  rw [List.getD_eq_getElem?_getD, List.getElem?_eq_getElem h2, Option.getD_some]
  exact hA _ (List.getElem_mem h2)
theorem impl_crash1 (K : List Int) (last n : Int) (C : List IPut) (hn : 0 ≤ n ∧ n ≤ 64) (N : Nat) (hC : C.length ≤ 1099511627776) (hg : ∀ p ∈ C, 0 ≤ p.f0 ∧ p.f0 < (N : Int) ∧ p.f1.size = 64) : ∀ (rest pre : List IPut) (A : List ByteArray), C = pre ++ rest → A.length = N → (∀ a ∈ A, a.size = 64) →
    Ev (fun k => impl_CrashDisk.l1 k K last n C (C.length : Int) (pre.length : Int) A) (crashC K last n pre.length rest A, ([] : List IPut)) := by
  intro rest
  induction rest with
  | nil =>
    intro pre A e hA hz
    refine ev_step ?_
    simp only [impl_CrashDisk.l1]
    exact ev_neg (by rw [e]; simp) (Ev.now _)
  | cons p rest ih =>
    intro pre A e hA hz
    have hg2 : rd_T64 C (pre.length : Int) = p := by unfold rd_T64; rw [Int.toNat_natCast, e, getD_mid]
    have hlt : (pre.length : Int) < (C.length : Int) := by rw [e]; exact len_mid _ _ _
    have hp := hg p (by rw [e]; simp)
    have hr := rdOf_good A p.f0 hz hp.1 (by rw [hA]; exact hp.2.1)
    refine ev_step ?_
    simp only [impl_CrashDisk.l1]
    rw [hg2, next64 _ (by omega), crashC]
    have go : ∀ A', A'.length = N → (∀ a ∈ A', a.size = 64) → Ev (fun k => impl_CrashDisk.l1 k K last n C (C.length : Int) ((pre.length + 1 : Nat) : Int) A') (crashC K last n (pre.length + 1) rest A', ([] : List IPut)) := by
      intro A' h1 h2
      have h := ih (pre ++ [p]) A' (by simp [e]) h1 h2
      rwa [List.length_append, List.length_singleton] at h
    refine ev_pos hlt (ev_pos (by omega) (ev_pos hlt ?_))
    unfold stepC
    by_cases c : (pre.length : Int) = last
    · rw [if_pos c]
      have ht := torn_size p n A hn.1 hn.2 hp.2.2 hr
      have ht2 := ht
      unfold tornM at ht2
      rw [ByteArray.size_append] at ht2
      exact ev_pos c (ev_pos hn.1 (ev_pos (by omega) (ev_pos hp.1 (ev_pos (by rw [hA]; exact hp.2.1) (ev_pos (by omega) (ev_pos (by omega) (go _ (by simp [hA]) (goodSet _ _ _ hz ht))))))))
    · rw [if_neg c]
      refine ev_neg c ?_
      unfold keptB
      by_cases c1 : (pre.length : Int) < (K.length : Int)
      · rw [decide_eq_true c1, Bool.true_and]
        by_cases c2 : Int.tmod (rd K (pre.length : Int)) 2 = 0
        · rw [decide_eq_true c2, if_neg (by simp)]
          exact ev_pos c1 (ev_pos c2 (go A hA hz))
        · rw [decide_eq_false c2, if_pos (by simp)]
          exact ev_pos c1 (ev_neg c2 (ev_pos hp.1 (ev_pos (by rw [hA]; exact hp.2.1) (go _ (by simp [hA]) (goodSet _ _ _ hz hp.2.2)))))
      · rw [decide_eq_false c1, Bool.false_and, if_neg (by simp)]
        exact ev_neg c1 (go A hA hz)
theorem impl_crash0 (K : List Int) (t : Int) (S : List ByteArray) (C : List IPut) (A : List ByteArray) (hC : C.length ≤ 1099511627776) (v : List ByteArray × List IPut)
    (h : ∀ last, last = lastC K C.length 0 (-1) → Ev (fun k => impl_CrashDisk.j1 k K last (tearM t) S C A) v) : ∀ (m i : Nat) (x : Int), i + m = C.length → lastC K m i x = lastC K C.length 0 (-1) → Ev (fun k => impl_CrashDisk.l0 k K t x (C.length : Int) (i : Int) S C A) v
  | 0, i, x, e, hl => by
    refine ev_step ?_
    simp only [impl_CrashDisk.l0]
    refine ev_neg (by omega) ?_
    by_cases c : Int.tmod t 65 < 0
    · rw [(wrap_tear t c).1]
      exact ev_pos c (h x hl)
    · have e2 : Int.tmod t 65 = tearM t := by unfold tearM; rw [if_neg c]
      refine ev_neg c ?_
      rw [e2]
      exact h x hl
  | m + 1, i, x, e, hl => by
    refine ev_step ?_
    simp only [impl_CrashDisk.l0]
    rw [next64 _ (by omega)]
    rw [lastC] at hl
    refine ev_pos (by omega) ?_
    unfold keptB at hl
    by_cases c1 : (i : Int) < (K.length : Int)
    · rw [decide_eq_true c1, Bool.true_and] at hl
      refine ev_pos c1 (ev_pos (by omega) ?_)
      by_cases c2 : Int.tmod (rd K (i : Int)) 2 = 0
      · rw [decide_eq_true c2, if_neg (by simp)] at hl
        exact ev_pos c2 (impl_crash0 K t S C A hC v h m (i + 1) x (by omega) hl)
      · rw [decide_eq_false c2, if_pos (by simp)] at hl
        exact ev_neg c2 (impl_crash0 K t S C A hC v h m (i + 1) i (by omega) hl)
    · rw [decide_eq_false c1, Bool.false_and, if_neg (by simp)] at hl
      exact ev_neg c1 (impl_crash0 K t S C A hC v h m (i + 1) x (by omega) hl)
theorem last_facts (K : List Int) (n : Nat) : lastC K n 0 (-1) < (n : Int) ∧ (lastC K n 0 (-1) < (K.length : Int)) ∧ (∀ i : Nat, (i : Int) = lastC K n 0 (-1) → keptB K i = true) ∧ ∀ j : Nat, lastC K n 0 (-1) < (j : Int) → j < n → keptB K j = false := by
  rcases lastC_told K n 0 (-1) with ⟨e, h⟩ | ⟨j, h1, h2, e, h3, h4⟩
  · rw [e]
    exact ⟨by omega, by omega, fun i hi => by omega, fun j _ hj => h j (by omega) (by omega)⟩
  · rw [e]
    have hk := h3
    unfold keptB at hk
    simp only [Bool.and_eq_true, decide_eq_true_eq] at hk
    exact ⟨by omega, hk.1, fun i hi => by have : i = j := by omega
                                          rw [this]; exact h3, fun q hq hq2 => h4 q (by omega) (by omega)⟩
theorem impl_crash (S : List ByteArray) (C : List IPut) (K : List Int) (t : Int) (hS : S.length ≤ 1099511627776) (hC : C.length ≤ 1099511627776) : Ev (fun k => impl_CrashDisk.f k S C K t) (crashM S C K t) := by
  unfold impl_CrashDisk.f crashM
  refine ev_cbind (impl_copy S C hS hC) (ev_bind (impl_diskOk S C hS hC) (ev_if (fun h => ?_) (fun h => ?_)))
  · rw [if_pos h]
    have hg := (diskOk_iff S C).1 h
    refine impl_crash0 K t S C S hC _ (fun last hl => ?_) C.length 0 (-1) (by omega) rfl
    refine ev_step ?_
    simp only [impl_CrashDisk.j1]
    rw [← hl]
    exact impl_crash1 K last (tearM t) C (tearM_in t) S.length hC hg.2.2.2.2 C [] S rfl rfl hg.2.2.2.1
  · rw [if_neg h]; exact Ev.now _
theorem crash_lens (S : List ByteArray) (C : List IPut) (K : List Int) (t : Int) : (crashM S C K t).1.length = S.length ∧ (crashM S C K t).2.length ≤ C.length := by
  have h : ∀ (last n : Int) (rest : List IPut) (i : Nat) (A : List ByteArray), (crashC K last n i rest A).length = A.length := by
    intro last n rest
    induction rest with
    | nil => intro i A; rfl
    | cons p rest ih =>
      intro i A
      rw [crashC, ih]
      unfold stepC
      split
      · simp
      · split <;> simp
  unfold crashM
  split
  · exact ⟨h _ _ _ _ _, by simp⟩
  · exact ⟨rfl, Nat.le_refl _⟩

/-! the drawing's cursor -/
theorem and255 (n : Int) : 0 ≤ Go.bits .and .i64 n 255 ∧ Go.bits .and .i64 n 255 ≤ 255 := by
  have h255 : (BitVec.ofInt 64 255).toNat = 2 ^ 8 - 1 := by decide
  have key : (BitVec.ofInt 64 n &&& BitVec.ofInt 64 255).toNat = (n % ((2 ^ 64 : Nat) : Int)).toNat % 2 ^ 8 := by
    rw [BitVec.toNat_and, BitVec.toNat_ofInt, h255, Nat.and_two_pow_sub_one_eq_mod]
  have e : Go.bits .and .i64 n 255 = n % 256 := by
    show IntKind.i64.wrap ((BitVec.ofInt 64 n &&& BitVec.ofInt 64 255).toNat : Nat) = n % 256
    rw [key, IntKind.wrap_i64]
    omega
  rw [e]
  omega
def CurOk (b : List Int) (i : Int) : Prop := 0 ≤ i ∧ i ≤ (b.length : Int)
theorem draw_byte (b : List Int) (i h : Int) (hb : b.length ≤ 1048576) (hi : CurOk b i) : ∃ r i' h', spec_l01Byte.f b i h = some (r, i', h') ∧ (0 ≤ r ∧ r ≤ 255) ∧ CurOk b i' := by
  unfold spec_l01Byte.f
  by_cases c : i < (b.length : Int)
  · rw [if_pos c, if_pos hi.1]
    refine ⟨_, _, _, rfl, and255 _, ?_⟩
    unfold CurOk at hi ⊢
    rw [w64 (by omega) (by omega)]
    omega
  · rw [if_neg c]
    exact ⟨_, _, _, rfl, and255 _, hi⟩
theorem draw_below (b : List Int) (i h n : Int) (hb : b.length ≤ 1048576) (hi : CurOk b i) : ∃ r i' h', spec_l01Below.f b i h n = some (r, i', h') ∧ 0 ≤ r ∧ (0 < n → r < n) ∧ (n ≤ 0 → r = 0) ∧ CurOk b i' := by
  unfold spec_l01Below.f
  by_cases c : n ≤ 0
  · rw [if_pos c]
    exact ⟨_, _, _, rfl, Int.le_refl _, fun h => by omega, fun _ => rfl, hi⟩
  rw [if_neg c]
  obtain ⟨r1, i1, h1, e1, q1, g1⟩ := draw_byte b i h hb hi
  by_cases c2 : n ≤ 256
  · rw [if_pos c2, e1, Option.bind_some, if_neg (by omega)]
    exact ⟨_, _, _, rfl, Int.tmod_nonneg _ q1.1, fun _ => Int.tmod_lt_of_pos _ (by omega), fun h => by omega, g1⟩
  · rw [if_neg c2]
    obtain ⟨r2, i2, h2, e2, q2, g2⟩ := draw_byte b i1 h1 hb g1
    obtain ⟨r3, i3, h3, e3, q3, g3⟩ := draw_byte b i2 h2 hb g2
    obtain ⟨r4, i4, h4, e4, q4, g4⟩ := draw_byte b i3 h3 hb g3
    simp only [e1, e2, e3, e4, Option.bind_some]
    rw [if_neg (by omega), w64 (x := r1 * 16777216) (by omega) (by omega), w64 (x := r2 * 65536) (by omega) (by omega), w64 (x := r1 * 16777216 + r2 * 65536) (by omega) (by omega), w64 (x := r3 * 256) (by omega) (by omega), w64 (x := r1 * 16777216 + r2 * 65536 + r3 * 256) (by omega) (by omega), w64 (x := r1 * 16777216 + r2 * 65536 + r3 * 256 + r4) (by omega) (by omega)]
    exact ⟨_, _, _, rfl, Int.tmod_nonneg _ (by omega), fun _ => Int.tmod_lt_of_pos _ (by omega), fun h => by omega, g4⟩
theorem draw_new0 (b : List Int) (hb : b.length ≤ 1048576) : ∀ (m j : Nat) (x : Int), j + m = b.length → ∃ h, Ev (fun k => spec_l01New.l0 k b x (j : Int)) (b, 0, h)
  | 0, j, x, e => by
    refine ⟨x, ev_step ?_⟩
    simp only [spec_l01New.l0]
    exact ev_neg (by omega) (Ev.now _)
  | m + 1, j, x, e => by
    by_cases c : (j : Int) < 4000
    · obtain ⟨h, hh⟩ := draw_new0 b hb m (j + 1) (Go.bits .and .i64 (wrap64 ((wrap64 ((wrap64 (x * 131)) + (wrap64 (rd b (j : Int))))) + 7)) 1073741823) (by omega)
      refine ⟨h, ev_step ?_⟩
      simp only [spec_l01New.l0]
      rw [next64 _ (by omega)]
      exact ev_pos (by omega) (ev_pos c (ev_pos (by omega) hh))
    · refine ⟨x, ev_step ?_⟩
      simp only [spec_l01New.l0]
      exact ev_pos (by omega) (ev_neg c (Ev.now _))
theorem draw_new (b : List Int) (hb : b.length ≤ 1048576) : ∃ h, Ev (fun k => spec_l01New.f k b) (b, 0, h) := draw_new0 b hb b.length 0 _ (by omega)
theorem cur0 (b : List Int) : CurOk b 0 := ⟨Int.le_refl _, by omega⟩
theorem strOfNums_size (x : List Int) : (strOfNums x).size = x.length := by
  show (List.map (fun n : Int => UInt8.ofNat n.toNat) x).toArray.size = _
  simp

theorem draw_text0 (b : List Int) (hb : b.length ≤ 1048576) (N : Nat) (hN : N ≤ 5000) : ∀ (m j : Nat) (x : List Int) (i h : Int), j + m = N → x.length = j → CurOk b i → ∃ s i' h', Ev (fun k => spec_l01Text.l0 k (N : Int) x (j : Int) b i h) (s, i', h') ∧ s.size = N ∧ CurOk b i'
  | 0, j, x, i, h, e, hx, g => by
    refine ⟨strOfNums x, i, h, ev_step ?_, by rw [strOfNums_size]; omega, g⟩
    simp only [spec_l01Text.l0]
    exact ev_neg (by omega) (Ev.now _)
  | m + 1, j, x, i, h, e, hx, g => by
    obtain ⟨r, i1, h1, e1, q1, g1⟩ := draw_byte b i h hb g
    obtain ⟨s, i2, h2, e2, hs, g2⟩ := draw_text0 b hb N hN m (j + 1) (x ++ [r % 256]) i1 h1 (by omega) (by simp [hx]) g1
    refine ⟨s, i2, h2, ev_step ?_, hs, g2⟩
    simp only [spec_l01Text.l0]
    rw [next64 _ (by omega)]
    exact ev_pos (by omega) (ev_cbind e1 (ev_pos (by omega) e2))
theorem draw_text (b : List Int) (i h n : Int) (hb : b.length ≤ 1048576) (hi : CurOk b i) : ∃ s i' h', Ev (fun k => spec_l01Text.f k b i h n) (s, i', h') ∧ (s.size ≤ 5000 ∧ (n ≤ 5000 → s.size = n.toNat)) ∧ CurOk b i' := by
  unfold spec_l01Text.f
  by_cases c : n > 5000
  · obtain ⟨s, i2, h2, e2, hs, g2⟩ := draw_text0 b hb 5000 (by omega) 5000 0 [] i h (by omega) rfl hi
    refine ⟨s, i2, h2, ev_pos c (ev_step ?_), ⟨by omega, fun hn => by omega⟩, g2⟩
    simp only [spec_l01Text.j0]
    exact e2
  · by_cases c2 : n ≤ 0
    · refine ⟨strOfNums [], i, h, ev_neg c (ev_step ?_), ⟨by rw [strOfNums_size]; simp, fun hn => by rw [strOfNums_size]; simp; omega⟩, hi⟩
      simp only [spec_l01Text.j0]
      refine ev_step ?_
      simp only [spec_l01Text.l0]
      exact ev_neg (by omega) (Ev.now _)
    · obtain ⟨N, rfl⟩ : ∃ N : Nat, n = (N : Int) := ⟨n.toNat, by omega⟩
      obtain ⟨s, i2, h2, e2, hs, g2⟩ := draw_text0 b hb N (by omega) N 0 [] i h (by omega) rfl hi
      refine ⟨s, i2, h2, ev_neg c (ev_step ?_), ⟨by omega, fun hn => by omega⟩, g2⟩
      simp only [spec_l01Text.j0]
      exact e2
theorem draw_once (b : List Int) (i h n : Int) (hb : b.length ≤ 1048576) (hi : CurOk b i) : ∃ r i' h', spec_l01Once.f b i h n = some (r, i', h') ∧ CurOk b i' := by
  unfold spec_l01Once.f
  obtain ⟨r, i1, h1, e1, _, _, _, g1⟩ := draw_below b i h n hb hi
  rw [e1, Option.bind_some]
  exact ⟨_, _, _, rfl, g1⟩

/-! long texts of one byte -/
theorem long0 (N : Nat) (x : Int) (hN : N ≤ 1099511627776) : ∀ (m j : Nat), j + m = N → Ev (fun k => spec_l01Long.l0 k (N : Int) x (List.replicate j x ++ List.replicate m 0) (j : Int)) (strOfNums (List.replicate N x))
  | 0, j, e => by
    refine ev_step ?_
    simp only [spec_l01Long.l0]
    obtain rfl : j = N := by omega
    exact ev_neg (by omega) (ev_now (by simp))
  | m + 1, j, e => by
    refine ev_step ?_
    simp only [spec_l01Long.l0]
    have h := long0 N x hN m (j + 1) (by omega)
    have hs : (List.replicate j x ++ List.replicate (m + 1) (0 : Int)).set (j : Int).toNat x = List.replicate (j + 1) x ++ List.replicate m 0 := by
      rw [Int.toNat_natCast, List.set_append_right _ _ (by simp), List.length_replicate, Nat.sub_self, List.replicate_succ, List.set_cons_zero, List.replicate_succ']
      simp
    rw [hs, next64 _ (by omega)]
    exact ev_pos (by omega) (ev_pos (by omega) (ev_pos (by simp; omega) h))
theorem long_ok (N : Nat) (x : Int) (hN : N ≤ 1099511627776) : Ev (fun k => spec_l01Long.f k (N : Int) x) (strOfNums (List.replicate N x)) := by
  unfold spec_l01Long.f
  rw [Int.toNat_natCast]
  have h := long0 N x hN N 0 (by omega)
  exact ev_pos (by omega) (ev_pos (by omega) h)
def zero64 : ByteArray := strOfNums (List.replicate 64 0)
theorem zero64_size : zero64.size = 64 := by rw [zero64, strOfNums_size]; simp
theorem zero_ok : Ev (fun k => spec_l03Zero.f k) zero64 := by
  unfold spec_l03Zero.f
  exact ev_bind (long_ok 64 0 (by omega)) (Ev.now _)
theorem spec_new0 (N : Nat) (hN : N ≤ 100) : ∀ (m j : Nat), j + m = N → Ev (fun k => spec_DiskNew.l0 k (N : Int) (j : Int) (List.replicate j zero64)) (List.replicate N zero64, ([] : List IPut), true)
  | 0, j, e => by
    refine ev_step ?_
    simp only [spec_DiskNew.l0]
    obtain rfl : j = N := by omega
    exact ev_neg (by omega) (Ev.now _)
  | m + 1, j, e => by
    refine ev_step ?_
    simp only [spec_DiskNew.l0]
    have h := spec_new0 N hN m (j + 1) (by omega)
    rw [next64 _ (by omega)]
    rw [List.replicate_succ'] at h
    exact ev_pos (by omega) (ev_bind zero_ok (ev_pos (by simp; omega) h))
theorem spec_new (N : Nat) (h1 : 1 ≤ N) (hN : N ≤ 100) : Ev (fun k => spec_DiskNew.f k (N : Int)) (List.replicate N zero64, ([] : List IPut), true) := by
  unfold spec_DiskNew.f
  exact ev_cbind (in_val _ _ _) (ev_pos (by rw [decide_eq_true_eq]; omega) (spec_new0 N hN N 0 (by omega)))
theorem new_diskOk (N : Nat) (h1 : 1 ≤ N) (hN : N ≤ 100) : diskOkM (List.replicate N zero64) [] = true := (diskOk_iff _ _).2 ⟨by simpa using h1, by simpa using hN, by simp, fun s hs => by rw [(List.mem_replicate.1 hs).2]; exact zero64_size, fun p hp => by cases hp⟩

/-! bytes written over sectors -/
def patchM (was : ByteArray) (F : Nat) (s : ByteArray) (n : Nat) : ByteArray := (was.extract 0 F ++ s) ++ was.extract (F + n) was.size
def chunkN (t : ByteArray) (F i : Nat) : Nat := min (64 - F) (t.size - i)
def heldAt (S : List ByteArray) (C : List IPut) (k : Int) : ByteArray := lastPut C k (S.getD k.toNat ByteArray.empty)
def wbM (S : List ByteArray) (t : ByteArray) : Nat → List IPut → Int → Nat → Nat → Option (List IPut)
  | 0, C, _, _, _ => some C
  | m + 1, C, k, F, i => if t.size ≤ i then some C else if 0 ≤ k ∧ k ≤ (S.length : Int) - 1 ∧ C.length < 60 then
      wbM S t m (C ++ [(⟨k, patchM (heldAt S C k) F (t.extract i (i + chunkN t F i)) (chunkN t F i)⟩ : IPut)]) (k + 1) 0 (i + chunkN t F i) else none
def wbEnd (S : List ByteArray) (C : List IPut) : Option (List IPut) → List ByteArray × List IPut × Bool
  | some C' => (S, C', true)
  | none => (S, C, false)
def wbytesM (S : List ByteArray) (C : List IPut) (sector at_ : Int) (t : ByteArray) : List ByteArray × List IPut × Bool :=
  if (0 ≤ at_ ∧ at_ ≤ 6400) ∧ (0 ≤ sector ∧ sector ≤ (S.length : Int) - 1) then wbEnd S C (wbM S t t.size C (sector + at_ / 64) (at_ % 64).toNat 0) else (S, C, false)
theorem lastPut_64 (C : List IPut) (i : Int) (hC : ∀ p ∈ C, p.f1.size = 64) : ∀ (d : ByteArray), d.size = 64 → (lastPut C i d).size = 64 := by
  induction C with
  | nil => intro d h; exact h
  | cons p C ih =>
    intro d h
    show (lastPut C i (if p.f0 = i then p.f1 else d)).size = 64
    refine ih (fun q hq => hC q (by simp [hq])) _ ?_
    split
    · exact hC p (by simp)
    · exact h
theorem heldAt_64 (S : List ByteArray) (C : List IPut) (k : Int) (hd : diskOkM S C = true) (h0 : 0 ≤ k) (h1 : k ≤ (S.length : Int) - 1) : (heldAt S C k).size = 64 := by
  obtain ⟨_, _, _, h4, h5⟩ := (diskOk_iff S C).1 hd
  refine lastPut_64 C k (fun p hp => (h5 p hp).2.2) _ ?_
  have h2 : k.toNat < S.length := by omega
  rw [List.getD_eq_getElem?_getD, List.getElem?_eq_getElem h2, Option.getD_some]
  exact h4 _ (List.getElem_mem h2)
theorem patch_64 (was s : ByteArray) (F n : Nat) (hw : was.size = 64) (hs : s.size = n) (hn : F + n ≤ 64) : (patchM was F s n).size = 64 := by
  unfold patchM
  rw [ByteArray.size_append, ByteArray.size_append, ByteArray.size_extract, ByteArray.size_extract, hw, hs]
  omega
theorem chunk_size (t : ByteArray) (F i : Nat) (hi : i ≤ t.size) : (t.extract i (i + chunkN t F i)).size = chunkN t F i := by
  unfold chunkN
  rw [ByteArray.size_extract]
  omega
theorem chunk_facts (t : ByteArray) (F i : Nat) (hF : F < 64) (hi : i < t.size) : F + chunkN t F i ≤ 64 ∧ i + chunkN t F i ≤ t.size ∧ 1 ≤ chunkN t F i ∧ (F + chunkN t F i = 64 ∨ i + chunkN t F i = t.size) := by
  unfold chunkN
  omega
theorem wbM_ok (S : List ByteArray) (t : ByteArray) : ∀ (m : Nat) (C : List IPut) (k : Int) (F i : Nat) (C' : List IPut), F < 64 → i ≤ t.size → diskOkM S C = true → wbM S t m C k F i = some C' → diskOkM S C' = true ∧ C'.length ≤ C.length + (F + (t.size - i) + 63) / 64
  | 0, C, k, F, i, C', hF, hi, hd, h => by
    rw [wbM] at h
    obtain rfl := Option.some.inj h
    exact ⟨hd, by omega⟩
  | m + 1, C, k, F, i, C', hF, hi, hd, h => by
    rw [wbM] at h
    by_cases c : t.size ≤ i
    · rw [if_pos c] at h
      obtain rfl := Option.some.inj h
      exact ⟨hd, by omega⟩
    rw [if_neg c] at h
    by_cases c2 : 0 ≤ k ∧ k ≤ (S.length : Int) - 1 ∧ C.length < 60
    · rw [if_pos c2] at h
      have hc := chunk_size t F i hi
      have hn := chunk_facts t F i hF (by omega)
      have hp := patch_64 _ _ F (chunkN t F i) (heldAt_64 S C k hd c2.1 c2.2.1) hc hn.1
      have hd2 := (diskOk_snoc S C k (patchM (heldAt S C k) F (t.extract i (i + chunkN t F i)) (chunkN t F i))).2 ⟨hd, ⟨c2.1, c2.2.1⟩, by omega, by omega⟩
      obtain ⟨r1, r2⟩ := wbM_ok S t m _ _ 0 _ C' (by omega) (by omega) hd2 h
      refine ⟨r1, ?_⟩
      rw [List.length_append, List.length_singleton] at r2
      generalize chunkN t F i = n at hn r2
      omega
    · rw [if_neg c2] at h
      cases h
theorem wbytes_ok (S : List ByteArray) (C : List IPut) (sector at_ : Int) (t : ByteArray) (hd : diskOkM S C = true) (B : Nat) (ht : t.size ≤ 64 * B) : (wbytesM S C sector at_ t).1 = S ∧ diskOkM S (wbytesM S C sector at_ t).2.1 = true ∧ (wbytesM S C sector at_ t).2.1.length ≤ C.length + (B + 1) := by
  unfold wbytesM
  split
  · rename_i h
    cases hw : wbM S t t.size C (sector + at_ / 64) (at_ % 64).toNat 0 with
    | none => exact ⟨rfl, hd, by show C.length ≤ _; omega⟩
    | some C' =>
      obtain ⟨r1, r2⟩ := wbM_ok S t t.size C _ (at_ % 64).toNat 0 C' (by omega) (by omega) hd hw
      exact ⟨rfl, r1, by show C'.length ≤ _; omega⟩
  · exact ⟨rfl, hd, by show C.length ≤ _; omega⟩
theorem readM_in (S : List ByteArray) (C : List IPut) (k : Int) (h0 : 0 ≤ k) (h1 : k ≤ (S.length : Int) - 1) : readM S C k = (heldAt S C k, true) := by
  unfold readM heldAt
  rw [if_pos ⟨h0, h1⟩]
theorem readM_out (S : List ByteArray) (C : List IPut) (k : Int) (h : ¬ (0 ≤ k ∧ k ≤ (S.length : Int) - 1)) : readM S C k = ((⟨#[]⟩ : ByteArray), false) := by
  unfold readM
  rw [if_neg h]

theorem spec_wb0 (S : List ByteArray) (C0 : List IPut) (t : ByteArray) (x1 x2 : Int) (h1 : 0 ≤ x1 ∧ x1 ≤ 100) (h2 : 0 ≤ x2 ∧ x2 ≤ 6400) (hS : S.length ≤ 100) (hC0 : C0.length ≤ 60) (ht : t.size ≤ 1099511627776) :
    ∀ (m : Nat) (C : List IPut) (k : Int) (F i : Nat), t.size - i ≤ m → i ≤ t.size → diskOkM S C = true → (t.size ≤ i ∨ (k = x1 + (x2 + i) / 64 ∧ (F : Int) = (x2 + i) % 64)) →
    Ev (fun q => spec_WriteBytes.l0 q x1 x2 t (i : Int) S C0 S C) (wbEnd S C0 (wbM S t m C k F i))
  | 0, C, k, F, i, hm, hi, hd, hk => by
    refine ev_step ?_
    simp only [spec_WriteBytes.l0]
    exact ev_neg (by omega) (Ev.now _)
  | m' + 1, C, k, F, i, hm, hi, hd, hk => by
    refine ev_step ?_
    simp only [spec_WriteBytes.l0]
    by_cases c : t.size ≤ i
    · have e : wbM S t (m' + 1) C k F i = some C := by rw [wbM, if_pos c]
      rw [e]
      exact ev_neg (by omega) (Ev.now _)
    obtain ⟨hk1, hk2⟩ := hk.resolve_left c
    have e1 : wrap64 (x2 + (i : Int)) = x2 + i := w64 (by omega) (by omega)
    have e2 : Int.tmod (x2 + (i : Int)) 64 = (F : Int) := by rw [hk2]; exact Int.tmod_eq_emod_of_nonneg (by omega)
    have e3 : Int.tdiv (x2 + (i : Int)) 64 = (x2 + i) / 64 := Int.tdiv_eq_ediv_of_nonneg (by omega)
    have e4 : wrap64 ((x2 + (i : Int)) / 64) = (x2 + i) / 64 := w64 (by omega) (by omega)
    have e5 : wrap64 (x1 + (x2 + (i : Int)) / 64) = k := by rw [hk1]; exact w64 (by omega) (by omega)
    have e6 : wrap64 (64 - (F : Int)) = 64 - F := w64 (by omega) (by omega)
    have e7 : wrap64 ((t.size : Int) - (i : Int)) = (t.size : Int) - i := w64 (by omega) (by omega)
    have hF : F < 64 := by omega
    rw [e1, e2, e3, e4, e5, e6, e7]
    clear hk e1 e2 e3 e4 e5 e6 e7
    refine ev_pos (by omega) ?_
    have go : Ev (fun q => spec_WriteBytes.j2 q x1 x2 t (i : Int) k (F : Int) ((chunkN t F i : Nat) : Int) S C0 S C) (wbEnd S C0 (wbM S t (m' + 1) C k F i)) := by
      refine ev_step ?_
      simp only [spec_WriteBytes.j2]
      have hrd := spec_read S C k (by omega) (by have := ((diskOk_iff S C).1 hd).2.2.1; omega)
      by_cases c2 : 0 ≤ k ∧ k ≤ (S.length : Int) - 1
      · rw [readM_in S C k c2.1 c2.2] at hrd
        have hw := heldAt_64 S C k hd c2.1 c2.2
        have hsz : ((heldAt S C k).size : Int) = 64 := by omega
        refine ev_bind hrd (ev_pos (by first | rfl | trivial) ?_)
        show Ev (fun q => spec_WriteBytes.j3 q x1 x2 t (i : Int) k (F : Int) ((chunkN t F i : Nat) : Int) (heldAt S C k) (((heldAt S C k).size : Int) != 64) S C0 S C) _
        rw [hsz]
        refine ev_step ?_
        simp only [spec_WriteBytes.j3]
        have hn := chunk_facts t F i hF (by omega)
        have hc := chunk_size t F i hi
        have f1 : wrap64 ((i : Int) + ((chunkN t F i : Nat) : Int)) = ((i + chunkN t F i : Nat) : Int) := by rw [w64 (by omega) (by omega)]; omega
        have f2 : wrap64 ((F : Int) + ((chunkN t F i : Nat) : Int)) = ((F + chunkN t F i : Nat) : Int) := by rw [w64 (by omega) (by omega)]; omega
        rw [f1, f2]
        clear f1 f2
        simp only [Int.toNat_natCast]
        rw [hw]
        have hp := patch_64 _ _ F (chunkN t F i) hw hc hn.1
        have hwr := spec_write S C k (patchM (heldAt S C k) F (t.extract i (i + chunkN t F i)) (chunkN t F i)) (by omega) (by have := ((diskOk_iff S C).1 hd).2.2.1; omega)
        have hp2 : patchM (heldAt S C k) F (t.extract i (i + chunkN t F i)) (chunkN t F i) = (heldAt S C k).extract 0 F ++ t.extract i (i + chunkN t F i) ++ (heldAt S C k).extract (F + chunkN t F i) 64 := by unfold patchM; rw [hw]
        have s1 : ((heldAt S C k).extract 0 F).size + (t.extract i (i + chunkN t F i)).size ≤ 9223372036854775807 := by rw [ByteArray.size_extract, hc, hw]; omega
        have s2 : (((heldAt S C k).extract 0 F) ++ (t.extract i (i + chunkN t F i))).size + ((heldAt S C k).extract (F + chunkN t F i) 64).size ≤ 9223372036854775807 := by
          rw [ByteArray.size_append, ByteArray.size_extract, hc, ByteArray.size_extract, hw]; omega
        refine ev_neg (by decide) (ev_pos (by omega) (ev_pos (by omega) (ev_pos (by omega) (ev_pos (by omega) (ev_pos (by omega) (ev_pos s1 (ev_pos (by omega) (ev_pos (by omega) (ev_pos s2 ?_)))))))))
        rw [← hp2, wbM, if_neg c]
        unfold writeM at hwr
        by_cases c3 : C.length < 60
        · have hd2 := (diskOk_snoc S C k (patchM (heldAt S C k) F (t.extract i (i + chunkN t F i)) (chunkN t F i))).2 ⟨hd, c2, by omega, by omega⟩
          rw [if_pos hd2] at hwr
          rw [if_pos ⟨c2.1, c2.2, c3⟩]
          refine ev_bind hwr (ev_pos (by first | rfl | trivial) ?_)
          refine spec_wb0 S C0 t x1 x2 h1 h2 hS hC0 ht m' _ _ 0 _ (by omega) (by omega) hd2 ?_
          rcases hn.2.2.2 with q | q
          · refine .inr ⟨?_, ?_⟩
            · rw [hk1]; omega
            · omega
          · exact .inl (by omega)
        · rw [if_neg (fun h => c3 h.2.2)]
          rw [if_neg (fun h => by have := ((diskOk_snoc S C k _).1 h).2.2.2; omega)] at hwr
          exact ev_bind hwr (ev_neg (by simp) (ev_cbind (spec_copy S C0 (by omega) (by omega)) (Ev.now _)))
      · rw [readM_out S C k c2] at hrd
        rw [wbM, if_neg c, if_neg (fun h => c2 ⟨h.1, h.2.1⟩)]
        refine ev_bind hrd (ev_neg (by decide) (ev_step ?_))
        simp only [spec_WriteBytes.j3]
        exact ev_pos (by first | rfl | trivial) (ev_cbind (spec_copy S C0 (by omega) (by omega)) (Ev.now _))
    by_cases c4 : (64 : Int) - F > (t.size : Int) - i
    · have e : (t.size : Int) - i = ((chunkN t F i : Nat) : Int) := by unfold chunkN; omega
      refine ev_pos c4 ?_
      rw [e]
      exact go
    · have e : (64 : Int) - F = ((chunkN t F i : Nat) : Int) := by unfold chunkN; omega
      refine ev_neg c4 ?_
      rw [e]
      exact go
theorem spec_wb (S : List ByteArray) (C : List IPut) (sector at_ : Int) (t : ByteArray) (hd : diskOkM S C = true) (ht : t.size ≤ 1099511627776) : Ev (fun k => spec_WriteBytes.f k S C sector at_ t) (wbytesM S C sector at_ t) := by
  obtain ⟨d1, d2, d3, _, _⟩ := (diskOk_iff S C).1 hd
  have hdo := spec_diskOk S C (by omega) (by omega)
  rw [hd] at hdo
  have out : Ev (fun k => spec_WriteBytes.j0 k sector at_ t true S C S C) (S, C, false) := by
    refine ev_step ?_
    simp only [spec_WriteBytes.j0]
    exact ev_pos (by first | rfl | trivial) (Ev.now _)
  unfold spec_WriteBytes.f wbytesM
  rw [w64 (x := (S.length : Int) - 1) (by omega) (by omega)]
  refine ev_cbind (spec_copy S C (by omega) (by omega)) (ev_cbind (in_val _ _ _) ?_)
  by_cases c1 : 0 ≤ at_ ∧ at_ ≤ 6400
  · refine ev_pos (decide_eq_true c1) (ev_cbind (in_val _ _ _) ?_)
    by_cases c2 : 0 ≤ sector ∧ sector ≤ (S.length : Int) - 1
    · rw [if_pos ⟨c1, c2⟩]
      refine ev_pos (decide_eq_true c2) (ev_bind hdo ?_)
      refine ev_step ?_
      simp only [spec_WriteBytes.j0]
      refine ev_neg (by decide) ?_
      exact spec_wb0 S C t sector at_ (by omega) c1 (by omega) (by omega) ht t.size C _ (at_ % 64).toNat 0 (by omega) (by omega) hd (.inr ⟨by simp, by simp; omega⟩)
    · rw [if_neg (fun h => c2 h.2)]
      exact ev_neg (by rw [decide_eq_true_eq]; exact c2) out
  · rw [if_neg (fun h => c1 h.1)]
    exact ev_neg (by rw [decide_eq_true_eq]; exact c1) out

/-! what is drawn -/
theorem putAll_64 (C : List IPut) (hC : ∀ p ∈ C, p.f1.size = 64) : ∀ (S : List ByteArray), (∀ s ∈ S, s.size = 64) → ∀ s ∈ putAll S C, s.size = 64 := by
  induction C with
  | nil => intro S h; exact h
  | cons p C ih =>
    intro S h
    show ∀ s ∈ putAll (S.set p.f0.toNat p.f1) C, s.size = 64
    refine ih (fun q hq => hC q (by simp [hq])) _ (fun a ha => ?_)
    rcases List.mem_or_eq_of_mem_set ha with h2 | rfl
    · exact h a h2
    · exact hC p (by simp)
theorem flush_ok (S : List ByteArray) (C : List IPut) (hd : diskOkM S C = true) : flushM S C = (putAll S C, []) ∧ diskOkM (putAll S C) [] = true := by
  refine ⟨by unfold flushM; rw [if_pos hd], ?_⟩
  obtain ⟨h1, h2, h3, h4, h5⟩ := (diskOk_iff S C).1 hd
  exact (diskOk_iff _ _).2 ⟨by rw [putAll_length]; exact h1, by rw [putAll_length]; exact h2, by simp, putAll_64 C (fun p hp => (h5 p hp).2.2) S h4, fun p hp => by cases hp⟩
theorem draw_disk0 (b : List Int) (hb : b.length ≤ 1048576) : ∀ (m j : Nat) (i h : Int) (S : List ByteArray) (C : List IPut), j + m = 9 → CurOk b i → diskOkM S C = true → C.length ≤ 3 * j →
    ∃ S' C' i' h', Ev (fun k => spec_l03Disk.l0 k (j : Int) b i h S C) (S', C', i', h') ∧ diskOkM S' C' = true ∧ C'.length ≤ 27 ∧ CurOk b i'
  | 0, j, i, h, S, C, e, g, hd, hl => by
    obtain ⟨r, i1, h1, e1, q1, q2, _, g1⟩ := draw_below b i h 9 hb g
    have q3 := q2 (by decide)
    refine ⟨S, C, i1, h1, ev_step ?_, hd, by omega, g1⟩
    simp only [spec_l03Disk.l0]
    exact ev_cbind e1 (ev_neg (by omega) (Ev.now _))
  | m' + 1, j, i, h, S, C, e, g, hd, hl => by
    obtain ⟨r, i1, h1, e1, q1, q2, _, g1⟩ := draw_below b i h 9 hb g
    by_cases c : (j : Int) < r
    · have q3 := q2 (by decide)
      obtain ⟨r2, i2, h2, e2, _, _, _, g2⟩ := draw_below b i1 h1 (S.length : Int) hb g1
      obtain ⟨r3, i3, h3, e3, _, _, _, g3⟩ := draw_below b i2 h2 70 hb g2
      obtain ⟨r4, i4, h4, e4, q4, q5, _, g4⟩ := draw_below b i3 h3 90 hb g3
      obtain ⟨s, i5, h5, e5, q6, g5⟩ := draw_text b i4 h4 r4 hb g4
      have q7 := q5 (by decide)
      have hs : s.size ≤ 64 * 2 := by rw [q6.2 (by omega)]; omega
      have e6 := spec_wb S C r2 r3 s hd (by omega)
      obtain ⟨w1, w2, w3⟩ := wbytes_ok S C r2 r3 s hd 2 hs
      generalize wbytesM S C r2 r3 s = W at e6 w1 w2 w3
      obtain ⟨W1, W2, W3⟩ := W
      simp only at w1 w2 w3
      subst w1
      obtain ⟨r7, i7, h7, e7, g7⟩ := draw_once b i5 h5 4 hb g5
      have hd2 := (diskOk_iff _ _).1 w2
      obtain ⟨f1, f2⟩ := flush_ok W1 W2 w2
      have e8 := spec_flush W1 W2 (by omega) (by omega)
      rw [f1] at e8
      by_cases c2 : r7 = true
      · obtain ⟨S', C', i', h', e9, d9, l9, g9⟩ := draw_disk0 b hb m' (j + 1) i7 h7 (putAll W1 W2) [] (by omega) g7 f2 (by simp)
        refine ⟨S', C', i', h', ev_step ?_, d9, l9, g9⟩
        simp only [spec_l03Disk.l0]
        rw [next64 _ (by omega)]
        exact ev_cbind e1 (ev_pos c (ev_cbind e2 (ev_cbind e3 (ev_cbind e4 (ev_bind e5 (ev_bind e6 (ev_cbind e7 (ev_pos c2 (ev_bind e8 e9)))))))))
      · obtain ⟨S', C', i', h', e9, d9, l9, g9⟩ := draw_disk0 b hb m' (j + 1) i7 h7 W1 W2 (by omega) g7 w2 (by omega)
        refine ⟨S', C', i', h', ev_step ?_, d9, l9, g9⟩
        simp only [spec_l03Disk.l0]
        rw [next64 _ (by omega)]
        exact ev_cbind e1 (ev_pos c (ev_cbind e2 (ev_cbind e3 (ev_cbind e4 (ev_bind e5 (ev_bind e6 (ev_cbind e7 (ev_neg c2 e9))))))))
    · refine ⟨S, C, i1, h1, ev_step ?_, hd, by omega, g1⟩
      simp only [spec_l03Disk.l0]
      exact ev_cbind e1 (ev_neg c (Ev.now _))
theorem draw_l03 (b : List Int) (i h : Int) (hb : b.length ≤ 1048576) (g : CurOk b i) : ∃ S C i' h', Ev (fun k => spec_l03Disk.f k b i h) (S, C, i', h') ∧ diskOkM S C = true ∧ C.length ≤ 27 ∧ CurOk b i' := by
  unfold spec_l03Disk.f
  obtain ⟨r, i1, h1, e1, q1, q2, _, g1⟩ := draw_below b i h 6 hb g
  have q3 := q2 (by decide)
  obtain ⟨N, hN⟩ : ∃ N : Nat, wrap64 (1 + r) = (N : Int) := ⟨(1 + r).toNat, by rw [w64 (by omega) (by omega)]; omega⟩
  rw [w64 (by omega) (by omega)] at hN
  have e2 := spec_new N (by omega) (by omega)
  obtain ⟨S', C', i', h', e9, d9, l9, g9⟩ := draw_disk0 b hb 9 0 i1 h1 (List.replicate N zero64) [] rfl g1 (new_diskOk N (by omega) (by omega)) (by simp)
  refine ⟨S', C', i', h', ev_cbind e1 ?_, d9, l9, g9⟩
  have hN2 : wrap64 (1 + r) = (N : Int) := by rw [w64 (by omega) (by omega)]; exact hN
  show Ev (fun k => (spec_DiskNew.f k (wrap64 (1 + r))).bind _) _
  rw [hN2]
  exact ev_bind e2 e9

theorem draw_disk (b : List Int) (hb : b.length ≤ 1048576) : ∃ S C, Ev (fun k => spec_DrawDisk.f k b) (S, C) ∧ diskOkM S C = true ∧ C.length ≤ 27 := by
  unfold spec_DrawDisk.f
  obtain ⟨h, e⟩ := draw_new b hb
  obtain ⟨S, C, i', h', e2, d, l, _⟩ := draw_l03 b 0 h hb (cur0 b)
  exact ⟨S, C, ev_bind e (ev_bind e2 (Ev.now _)), d, l⟩

theorem draw_places0 (b : List Int) (hb : b.length ≤ 1048576) : ∀ (m j : Nat) (l : List Int) (i h : Int), j + m = 12 → l.length = j → (∀ x ∈ l, 0 ≤ x ∧ x < 10000) → CurOk b i → ∃ P, Ev (fun k => spec_DrawPlaces.l0 k l (j : Int) b i h) P ∧ P.length = 12 ∧ ∀ x ∈ P, 0 ≤ x ∧ x < 10000
  | 0, j, l, i, h, e, hl, hx, g => by
    refine ⟨l, ev_step ?_, by omega, hx⟩
    simp only [spec_DrawPlaces.l0]
    exact ev_neg (by omega) (Ev.now _)
  | m + 1, j, l, i, h, e, hl, hx, g => by
    obtain ⟨r, i1, h1, e1, q1, q2, _, g1⟩ := draw_below b i h 10000 hb g
    obtain ⟨P, e2, hP⟩ := draw_places0 b hb m (j + 1) (l ++ [r]) i1 h1 (by omega) (by simp [hl]) (fun x hx2 => by
      rcases List.mem_append.1 hx2 with h3 | h3
      · exact hx x h3
      · rw [List.mem_singleton] at h3; subst h3; exact ⟨q1, q2 (by decide)⟩) g1
    refine ⟨P, ev_step ?_, hP⟩
    simp only [spec_DrawPlaces.l0]
    rw [next64 _ (by omega)]
    exact ev_pos (by omega) (ev_cbind e1 (ev_pos (by omega) e2))
theorem draw_places (b : List Int) (hb : b.length ≤ 1048576) : ∃ P, Ev (fun k => spec_DrawPlaces.f k b) P ∧ P.length = 12 ∧ ∀ x ∈ P, 0 ≤ x ∧ x < 10000 := by
  unfold spec_DrawPlaces.f
  obtain ⟨h, e⟩ := draw_new b hb
  obtain ⟨r, i1, h1, e1, _, g1⟩ := draw_byte b 0 h hb (cur0 b)
  obtain ⟨P, e2, hP⟩ := draw_places0 b hb 12 0 [] i1 h1 rfl rfl (fun x hx => by cases hx) g1
  exact ⟨P, ev_bind e (ev_cbind e1 e2), hP⟩
theorem rd_mem (P : List Int) (i : Int) (h0 : 0 ≤ i) (h1 : i < (P.length : Int)) : rd P i ∈ P := by
  unfold rd
  have h2 : i.toNat < P.length := by omega
  rw [List.getD_eq_getElem?_getD, List.getElem?_eq_getElem h2, Option.getD_some]
  exact List.getElem_mem h2

theorem torn (b : List Int) (hb : b.length ≤ 1048576) : Ev (fun k => laws_FnTorn.f k b) true := by
  unfold laws_FnTorn.f
  obtain ⟨S0, C0, e1, hd0, hl0⟩ := draw_disk b hb
  obtain ⟨P, e2, hP, hx⟩ := draw_places b hb
  obtain ⟨f1, hd⟩ := flush_ok S0 C0 hd0
  have d0 := (diskOk_iff S0 C0).1 hd0
  have e3 := impl_flush S0 C0 (by omega) (by omega)
  rw [f1] at e3
  generalize putAll S0 C0 = S at e3 hd
  obtain ⟨d1, d2, d3, d4, d5⟩ := (diskOk_iff S []).1 hd
  have x0 := hx _ (rd_mem P 0 (by omega) (by omega))
  have x1 := hx _ (rd_mem P 1 (by omega) (by omega))
  refine ev_cbind (a := false) (by unfold laws_big.f; rw [decide_eq_false (by omega)]) (ev_neg (by decide) (ev_bind e1 (ev_bind e3 (ev_bind e2 (ev_pos (by omega) (ev_neg (by show ¬ (S.length : Int) = 0; omega) ?_))))))
  have a0 : 0 ≤ Int.tmod (rd P 0) (S.length : Int) := Int.tmod_nonneg _ x0.1
  have a1 : Int.tmod (rd P 0) (S.length : Int) < (S.length : Int) := Int.tmod_lt_of_pos _ (by omega)
  have n0 : 0 ≤ Int.tmod (rd P 1) 65 := Int.tmod_nonneg _ x1.1
  have n1 : Int.tmod (rd P 1) 65 < 65 := Int.tmod_lt_of_pos _ (by decide)
  refine ev_pos (by omega) (ev_pos (by decide) (ev_pos (by decide) ?_))
  generalize hL : (⟨#[116, 104, 105, 114, 116, 121, 45, 116, 119, 111, 32, 98, 121, 116, 101, 115, 44, 32, 110, 111, 32, 109, 111, 114, 101, 32, 111, 114, 32, 108, 101, 115, 115, 116, 104, 105, 114, 116, 121, 45, 116, 119, 111, 32, 98, 121, 116, 101, 115, 44, 32, 110, 111, 32, 109, 111, 114, 101, 32, 111, 114, 32, 108, 101, 115, 115]⟩ : ByteArray) = L
  have z0 : L.size = 66 := by rw [← hL]; rfl
  clear hL
  have ht : (L.extract 0 64).size = 64 := by rw [ByteArray.size_extract, z0]; rfl
  generalize L.extract 0 64 = t at ht
  show Ev (fun k => (impl_WriteSector.f k S [] (Int.tmod (rd P 0) (S.length : Int)) t).bind _) _
  have a2 := rdOf_good S _ d4 a0 a1
  generalize Int.tmod (rd P 0) (S.length : Int) = at_ at a0 a1 a2
  generalize Int.tmod (rd P 1) 65 = n at n0 n1
  have hd3 := (diskOk_snoc S [] at_ t).2 ⟨hd, ⟨a0, by omega⟩, by omega, by simp⟩
  have e4 := impl_write S [] at_ t (by omega) (by simp)
  unfold writeM at e4
  rw [if_pos hd3] at e4
  have e5 := impl_crash S ([] ++ [(⟨at_, t⟩ : IPut)]) [1] n (by omega) (by simp)
  unfold crashM at e5
  rw [if_pos hd3] at e5
  have hn : tearM n = n := by
    unfold tearM
    have : Int.tmod n 65 = n := by rw [Int.tmod_eq_emod_of_nonneg n0]; omega
    rw [this, if_neg (by omega)]
  have hk : keptB [1] 0 = true := rfl
  have hc : crashC [1] (lastC [1] ([] ++ [(⟨at_, t⟩ : IPut)]).length 0 (-1)) (tearM n) 0 ([] ++ [(⟨at_, t⟩ : IPut)]) S = S.set at_.toNat (tornM ⟨at_, t⟩ n S) := by
    rw [hn, List.nil_append, List.length_singleton, lastC, lastC, if_pos hk, crashC, crashC, stepC, if_pos rfl]
  rw [hc] at e5
  have hs := torn_size ⟨at_, t⟩ n S n0 (by omega) ht a2
  have hd5 : diskOkM (S.set at_.toNat (tornM ⟨at_, t⟩ n S)) [] = true := (diskOk_iff _ _).2 ⟨by rw [List.length_set]; exact d1, by rw [List.length_set]; exact d2, d3, goodSet S _ _ d4 hs, fun p hp => by cases hp⟩
  have e6 := impl_diskOk (S.set at_.toNat (tornM ⟨at_, t⟩ n S)) [] (by rw [List.length_set]; omega) (by simp)
  rw [hd5] at e6
  have hg : rdOf ByteArray.empty (S.set at_.toNat (tornM ⟨at_, t⟩ n S)) at_ = tornM ⟨at_, t⟩ n S := by
    unfold rdOf
    rw [List.getD_eq_getElem?_getD, List.getElem?_set, if_pos rfl, if_pos (by omega)]
    rfl
  have z1 : (t.extract 0 n.toNat).size + ((rdOf ByteArray.empty S at_).extract n.toNat (rdOf ByteArray.empty S at_).size).size ≤ 9223372036854775807 := by
    rw [ByteArray.size_extract, ByteArray.size_extract, ht, a2]; omega
  refine ev_bind e4 (ev_bind e5 (ev_pos (by first | rfl | trivial) (ev_pos a0 (ev_pos (by show at_ < ((S.set _ _).length : Int); rw [List.length_set]; exact a1) (ev_pos n0 (ev_pos (by omega) (ev_pos (by exact a1) (ev_pos ?_ (ev_pos z1 (ev_pos ?_ (ev_bind e6 (Ev.now _))))))))))))
  · show n ≤ ((rdOf ByteArray.empty S at_).size : Int)
    omega
  · show (rdOf ByteArray.empty (S.set at_.toNat (tornM ⟨at_, t⟩ n S)) at_).toList = _
    rw [hg]
    rfl
theorem holds : laws_FnTorn.Pure := by
  intro l0 _ h _
  by_cases c : l0.length ≤ 1048576
  · exact ev_at (torn l0 c)
  · refine ⟨0, ?_⟩
    unfold laws_FnTorn.f laws_big.f
    rw [Option.bind_some, decide_eq_true (by omega)]
    rfl
end Go.Proofs.Ytfgjhfoljeaiiaa.QFnTorn
namespace Go.Proofs.Ytfgjhfoljeaiiaa.Pure
theorem FnTorn : QFnTorn.laws_FnTorn.Pure := QFnTorn.holds
end Go.Proofs.Ytfgjhfoljeaiiaa.Pure
