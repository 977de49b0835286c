/- The law FnDisksTold answers true at every draw. Conditions: the draw's length as the row gives it. -/
import Derived.Test.YtlmnbgblmackkaaQFnDisksToldx12
import Derived.Test.YtlmnbgblmackkaaAid
namespace Go.Proofs.Ytlmnbgblmackkaa.QFnDisksTold
open Go.RowKit Go.Proofs.YtlmnbgblmackkaaW.PrintWords Go.Proofs.YtlmnbgblmackkaaW.PrintLast Go.Proofs.Ytlmnbgblmackkaa.Aid Go.Proofs.Ytlmnbgblmackkaa.Sf
set_option linter.unusedVariables false
abbrev IPut := S88
theorem within_val (a b c : Int) : impl_within.f a b c = some (decide (b ≤ a ∧ a ≤ c)) := by
  unfold impl_within.f
  by_cases h : a ≥ b
  · rw [if_pos h]; congr 1; simp; intro; exact h
  · rw [if_neg h]; congr 1; simp; intro h2; omega
theorem in_val (a b c : Int) : spec_l01In.f a b c = some (decide (b ≤ a ∧ a ≤ c)) := by
  unfold spec_l01In.f
  by_cases h : a ≥ b
  · rw [if_pos h]; congr 1; simp; intro; exact h
  · rw [if_neg h]; congr 1; simp; intro h2; omega

/-! a sector is read -/
def lastPut (C : List IPut) (i : Int) (d : ByteArray) : ByteArray := C.foldl (fun t p => if p.f0 = i then p.f1 else t) d
def readM (S : List ByteArray) (C : List IPut) (i : Int) : ByteArray × Bool := if 0 ≤ i ∧ i ≤ (S.length : Int) - 1 then (lastPut C i (S.getD i.toNat ByteArray.empty), true) else ((⟨#[]⟩ : ByteArray), false)
theorem impl_read0 (C : List IPut) (i : Int) (hC : C.length ≤ 1099511627776) : ∀ (rest pre : List IPut) (d : ByteArray), C = pre ++ rest →
    Ev (fun k => impl_ReadSector.l0 k i d C (C.length : Int) (pre.length : Int)) (lastPut rest i d, true) := by
  intro rest
  induction rest with
  | nil =>
    intro pre d e
    refine ev_step ?_
    simp only [impl_ReadSector.l0]
    exact ev_neg (by rw [e]; simp) (Ev.now _)
  | cons p rest ih =>
    intro pre d e
    have hg : rd_T88 C (pre.length : Int) = p := by unfold rd_T88; rw [Int.toNat_natCast, e, getD_mid]
    have hlt : (pre.length : Int) < (C.length : Int) := by rw [e]; exact len_mid _ _ _
    refine ev_step ?_
    simp only [impl_ReadSector.l0]
    rw [hg, next64 _ (by omega)]
    refine ev_pos hlt (ev_pos (by omega) (ev_pos hlt ?_))
    by_cases c : p.f0 = i
    · have h := ih (pre ++ [p]) p.f1 (by simp [e])
      rw [List.length_append, List.length_singleton] at h
      refine ev_pos c (ev_eq h ?_)
      unfold lastPut
      rw [List.foldl_cons, if_pos c]
    · have h := ih (pre ++ [p]) d (by simp [e])
      rw [List.length_append, List.length_singleton] at h
      refine ev_neg c (ev_eq h ?_)
      unfold lastPut
      rw [List.foldl_cons, if_neg c]
theorem impl_read (S : List ByteArray) (C : List IPut) (i : Int) (hS : S.length ≤ 1099511627776) (hC : C.length ≤ 1099511627776) : Ev (fun k => impl_ReadSector.f k S C i) (readM S C i) := by
  unfold impl_ReadSector.f readM
  rw [w64 (x := (S.length : Int) - 1) (by omega) (by omega)]
  refine ev_cbind (within_val _ _ _) ?_
  by_cases h : 0 ≤ i ∧ i ≤ (S.length : Int) - 1
  · rw [decide_eq_true h, if_pos h]
    exact ev_pos rfl (ev_pos h.1 (ev_pos (by omega) (impl_read0 C i hC C [] _ rfl)))
  · rw [decide_eq_false h, if_neg h]
    exact ev_neg (by simp) (Ev.now _)
theorem spec_read0 (S : List ByteArray) (C : List IPut) (i : Int) (hi : 0 ≤ i) (hi2 : i < (S.length : Int)) (hC : C.length ≤ 1099511627776) : ∀ (n : Nat), n ≤ C.length →
    Ev (fun k => spec_ReadSector.l0 k i ((n : Int) - 1) S C) (lastPut (C.take n) i (S.getD i.toNat ByteArray.empty), true) := by
  intro n
  induction n with
  | zero =>
    intro _
    refine ev_step ?_
    simp only [spec_ReadSector.l0]
    exact ev_neg (by omega) (ev_pos hi (ev_pos hi2 (Ev.now _)))
  | succ n ih =>
    intro hn
    have h := ih (by omega)
    have e : ((n + 1 : Nat) : Int) - 1 = (n : Int) := by omega
    refine ev_step ?_
    simp only [spec_ReadSector.l0]
    rw [e, w64 (x := (n : Int) - 1) (by omega) (by omega)]
    have hg : rd_T88 C (n : Int) = C[n]'(by omega) := by unfold rd_T88; rw [Int.toNat_natCast, List.getD_eq_getElem?_getD, List.getElem?_eq_getElem (by omega)]; rfl
    rw [hg]
    have ht : C.take (n + 1) = C.take n ++ [C[n]'(by omega)] := by rw [List.take_succ_eq_append_getElem (by omega)]
    refine ev_pos (by omega) (ev_pos (by omega) (ev_pos (by omega) ?_))
    rw [ht]
    unfold lastPut
    rw [List.foldl_append]
    simp only [List.foldl_cons, List.foldl_nil]
    by_cases c : (C[n]'(by omega)).f0 = i
    · rw [if_pos c]
      exact ev_pos c (Ev.now _)
    · rw [if_neg c]
      exact ev_neg c h
theorem spec_read (S : List ByteArray) (C : List IPut) (i : Int) (hS : S.length ≤ 1099511627776) (hC : C.length ≤ 1099511627776) : Ev (fun k => spec_ReadSector.f k S C i) (readM S C i) := by
  unfold spec_ReadSector.f readM
  rw [w64 (x := (S.length : Int) - 1) (by omega) (by omega), w64 (x := (C.length : Int) - 1) (by omega) (by omega)]
  refine ev_cbind (in_val _ _ _) ?_
  by_cases h : 0 ≤ i ∧ i ≤ (S.length : Int) - 1
  · rw [decide_eq_true h, if_pos h]
    refine ev_pos rfl (ev_eq (spec_read0 S C i h.1 (by omega) hC C.length (Nat.le_refl _)) ?_)
    rw [List.take_length]
  · rw [decide_eq_false h, if_neg h]
    exact ev_neg (by simp) (Ev.now _)

/-! a disk is right -/
def goodP (n : Nat) (p : IPut) : Bool := decide ((0 ≤ p.f0 ∧ p.f0 ≤ (n : Int) - 1) ∧ (p.f1.size : Int) = 64)
def goodS (s : ByteArray) : Bool := decide ((s.size : Int) = 64)
def lensOk (S : List ByteArray) (C : List IPut) : Bool := decide ((1 : Int) ≤ S.length ∧ (S.length : Int) ≤ 100) && decide ((C.length : Int) ≤ 60)
def diskOkM (S : List ByteArray) (C : List IPut) : Bool := S.all goodS && (C.all (goodP S.length) && lensOk S C)
theorem diskOk_iff (S : List ByteArray) (C : List IPut) : diskOkM S C = true ↔ (1 ≤ S.length ∧ S.length ≤ 100 ∧ C.length ≤ 60 ∧ (∀ s ∈ S, s.size = 64) ∧ ∀ p ∈ C, 0 ≤ p.f0 ∧ p.f0 < (S.length : Int) ∧ p.f1.size = 64) := by
  unfold diskOkM lensOk
  simp only [Bool.and_eq_true, List.all_eq_true, goodS, goodP, decide_eq_true_eq]
  constructor
  · rintro ⟨h1, h2, ⟨h3, h4⟩, h5⟩
    refine ⟨by omega, by omega, by omega, fun s hs => by have := h1 s hs; omega, fun p hp => ?_⟩
    have := h2 p hp
    omega
  · rintro ⟨h1, h2, h3, h4, h5⟩
    refine ⟨fun s hs => by have := h4 s hs; omega, fun p hp => ?_, ⟨by omega, by omega⟩, by omega⟩
    have := h5 p hp
    omega
theorem impl_ok1 (S : List ByteArray) (C : List IPut) (hS : S.length ≤ 1099511627776) (hC : C.length ≤ 1099511627776) : ∀ (rest pre : List IPut), C = pre ++ rest →
    Ev (fun k => impl_DiskOk.l1 k C (C.length : Int) (pre.length : Int) S C) (rest.all (goodP S.length) && lensOk S C) := by
  intro rest
  induction rest with
  | nil =>
    intro pre e
    refine ev_step ?_
    simp only [impl_DiskOk.l1]
    refine ev_neg (by rw [e]; simp) (ev_cbind (within_val _ _ _) ?_)
    unfold lensOk
    by_cases h : (1 : Int) ≤ S.length ∧ (S.length : Int) ≤ 100
    · rw [decide_eq_true h]; exact ev_pos rfl (ev_now (by simp))
    · rw [decide_eq_false h]; exact ev_neg (by simp) (ev_now (by simp))
  | cons p rest ih =>
    intro pre e
    have hg : rd_T88 C (pre.length : Int) = p := by unfold rd_T88; rw [Int.toNat_natCast, e, getD_mid]
    have hlt : (pre.length : Int) < (C.length : Int) := by rw [e]; exact len_mid _ _ _
    have h := ih (pre ++ [p]) (by simp [e])
    rw [List.length_append, List.length_singleton] at h
    refine ev_step ?_
    simp only [impl_DiskOk.l1]
    rw [hg, next64 _ (by omega), w64 (x := (S.length : Int) - 1) (by omega) (by omega)]
    refine ev_pos hlt (ev_pos (by omega) (ev_pos hlt (ev_cbind (within_val _ _ _) ?_)))
    rw [List.all_cons]
    unfold goodP
    by_cases h1 : 0 ≤ p.f0 ∧ p.f0 ≤ (S.length : Int) - 1
    · rw [decide_eq_true h1]
      by_cases h2 : (p.f1.size : Int) = 64
      · refine ev_pos rfl (ev_pos h2 (ev_eq h ?_))
        rw [decide_eq_true (⟨h1, h2⟩ : (0 ≤ p.f0 ∧ p.f0 ≤ (S.length : Int) - 1) ∧ (p.f1.size : Int) = 64), Bool.true_and]
        rfl
      · refine ev_pos rfl (ev_neg h2 (ev_now ?_))
        rw [decide_eq_false (fun h => h2 h.2)]; rfl
    · rw [decide_eq_false h1]
      refine ev_neg (by simp) (ev_now ?_)
      rw [decide_eq_false (fun h => h1 h.1)]; rfl
theorem impl_ok0 (S : List ByteArray) (C : List IPut) (hS : S.length ≤ 1099511627776) (hC : C.length ≤ 1099511627776) : ∀ (rest pre : List ByteArray), S = pre ++ rest →
    Ev (fun k => impl_DiskOk.l0 k S (S.length : Int) (pre.length : Int) S C) (rest.all goodS && (C.all (goodP S.length) && lensOk S C)) := by
  intro rest
  induction rest with
  | nil =>
    intro pre e
    refine ev_step ?_
    simp only [impl_DiskOk.l0]
    refine ev_neg (by rw [e]; simp) (ev_eq (impl_ok1 S C hS hC C [] rfl) ?_)
    rw [List.all_nil, Bool.true_and]
  | cons s rest ih =>
    intro pre e
    have hg : rdOf ByteArray.empty S (pre.length : Int) = s := by unfold rdOf; rw [Int.toNat_natCast, e, getD_mid]
    have hlt : (pre.length : Int) < (S.length : Int) := by rw [e]; exact len_mid _ _ _
    have h := ih (pre ++ [s]) (by simp [e])
    rw [List.length_append, List.length_singleton] at h
    refine ev_step ?_
    simp only [impl_DiskOk.l0]
    rw [hg, next64 _ (by omega)]
    refine ev_pos hlt (ev_pos (by omega) (ev_pos hlt ?_))
    rw [List.all_cons]
    unfold goodS
    by_cases h2 : (s.size : Int) = 64
    · refine ev_pos h2 (ev_eq h ?_)
      rw [decide_eq_true h2, Bool.true_and]
      rfl
    · refine ev_neg h2 (ev_now ?_)
      rw [decide_eq_false h2]; rfl
theorem impl_diskOk (S : List ByteArray) (C : List IPut) (hS : S.length ≤ 1099511627776) (hC : C.length ≤ 1099511627776) : Ev (fun k => impl_DiskOk.f k S C) (diskOkM S C) := impl_ok0 S C hS hC S [] rfl
theorem spec_ok1 (S : List ByteArray) (C : List IPut) (hS : S.length ≤ 1099511627776) (hC : C.length ≤ 1099511627776) : ∀ (rest pre : List IPut), C = pre ++ rest →
    Ev (fun k => spec_DiskOk.l1 k (pre.length : Int) S C) (rest.all (goodP S.length)) := by
  intro rest
  induction rest with
  | nil =>
    intro pre e
    refine ev_step ?_
    simp only [spec_DiskOk.l1]
    exact ev_neg (by rw [e]; simp) (Ev.now _)
  | cons p rest ih =>
    intro pre e
    have hg : rd_T88 C (pre.length : Int) = p := by unfold rd_T88; rw [Int.toNat_natCast, e, getD_mid]
    have hlt : (pre.length : Int) < (C.length : Int) := by rw [e]; exact len_mid _ _ _
    have h := ih (pre ++ [p]) (by simp [e])
    rw [List.length_append, List.length_singleton] at h
    refine ev_step ?_
    simp only [spec_DiskOk.l1]
    rw [hg, next64 _ (by omega), w64 (x := (S.length : Int) - 1) (by omega) (by omega)]
    refine ev_pos hlt (ev_pos (by omega) (ev_cbind (in_val _ _ _) ?_))
    rw [List.all_cons]
    unfold goodP
    by_cases h1 : 0 ≤ p.f0 ∧ p.f0 ≤ (S.length : Int) - 1
    · rw [decide_eq_true h1]
      by_cases h2 : (p.f1.size : Int) = 64
      · refine ev_pos rfl (ev_pos h2 (ev_eq h ?_))
        rw [decide_eq_true (⟨h1, h2⟩ : (0 ≤ p.f0 ∧ p.f0 ≤ (S.length : Int) - 1) ∧ (p.f1.size : Int) = 64), Bool.true_and]
        rfl
      · refine ev_pos rfl (ev_neg h2 (ev_now ?_))
        rw [decide_eq_false (fun h => h2 h.2)]; rfl
    · rw [decide_eq_false h1]
      refine ev_neg (by simp) (ev_now ?_)
      rw [decide_eq_false (fun h => h1 h.1)]; rfl
theorem spec_ok0 (S : List ByteArray) (C : List IPut) (hS : S.length ≤ 1099511627776) (hC : C.length ≤ 1099511627776) : ∀ (rest pre : List ByteArray), S = pre ++ rest →
    Ev (fun k => spec_DiskOk.l0 k (pre.length : Int) S C) (rest.all goodS && C.all (goodP S.length)) := by
  intro rest
  induction rest with
  | nil =>
    intro pre e
    refine ev_step ?_
    simp only [spec_DiskOk.l0]
    refine ev_neg (by rw [e]; simp) (ev_eq (spec_ok1 S C hS hC C [] rfl) ?_)
    rw [List.all_nil, Bool.true_and]
  | cons s rest ih =>
    intro pre e
    have hg : rdOf ByteArray.empty S (pre.length : Int) = s := by unfold rdOf; rw [Int.toNat_natCast, e, getD_mid]
    have hlt : (pre.length : Int) < (S.length : Int) := by rw [e]; exact len_mid _ _ _
    have h := ih (pre ++ [s]) (by simp [e])
    rw [List.length_append, List.length_singleton] at h
    refine ev_step ?_
    simp only [spec_DiskOk.l0]
    rw [hg, next64 _ (by omega)]
    refine ev_pos hlt (ev_pos (by omega) ?_)
    rw [List.all_cons]
    unfold goodS
    by_cases h2 : (s.size : Int) = 64
    · refine ev_pos h2 (ev_eq h ?_)
      rw [decide_eq_true h2, Bool.true_and]
      rfl
    · refine ev_neg h2 (ev_now ?_)
      rw [decide_eq_false h2]; rfl
theorem spec_diskOk (S : List ByteArray) (C : List IPut) (hS : S.length ≤ 1099511627776) (hC : C.length ≤ 1099511627776) : Ev (fun k => spec_DiskOk.f k S C) (diskOkM S C) := by
  unfold spec_DiskOk.f diskOkM lensOk
  refine ev_cbind (in_val _ _ _) ?_
  by_cases h1 : (1 : Int) ≤ S.length ∧ (S.length : Int) ≤ 100
  · rw [decide_eq_true h1]
    refine ev_pos rfl (ev_step ?_)
    simp only [spec_DiskOk.j0]
    by_cases h2 : (C.length : Int) > 60
    · rw [decide_eq_true h2]
      refine ev_pos rfl (ev_now ?_)
      rw [decide_eq_false (show ¬ (C.length : Int) ≤ 60 by omega)]; simp
    · rw [decide_eq_false h2]
      refine ev_neg (by simp) (ev_eq (spec_ok0 S C hS hC S [] rfl) ?_)
      rw [decide_eq_true (show (C.length : Int) ≤ 60 by omega)]; simp
  · rw [decide_eq_false h1]
    refine ev_neg (by simp) (ev_step ?_)
    simp only [spec_DiskOk.j0]
    exact ev_pos (by first | rfl | trivial) (ev_now (by simp))

theorem impl_copy (S : List ByteArray) (C : List IPut) (hS : S.length ≤ 1099511627776) (hC : C.length ≤ 1099511627776) : impl_copyDisk.f S C = some (S, C) := by
  unfold impl_copyDisk.f
  rw [if_pos (by simp; omega), if_pos (by simp; omega), List.nil_append, List.nil_append]
theorem spec_copy (S : List ByteArray) (C : List IPut) (hS : S.length ≤ 1099511627776) (hC : C.length ≤ 1099511627776) : spec_l03Copy.f S C = some (S, C) := by
  unfold spec_l03Copy.f
  simp only [Option.bind_some]
  rw [if_pos (by simp; omega), if_pos (by simp; omega), List.nil_append, List.nil_append]

def writeM (S : List ByteArray) (C : List IPut) (i : Int) (s : ByteArray) : List ByteArray × List IPut × Bool :=
  if diskOkM S (C ++ [(⟨i, s⟩ : IPut)]) = true then (S, C ++ [(⟨i, s⟩ : IPut)], true) else (S, C, false)
theorem diskOk_snoc (S : List ByteArray) (C : List IPut) (i : Int) (s : ByteArray) : diskOkM S (C ++ [(⟨i, s⟩ : IPut)]) = true ↔ (diskOkM S C = true ∧ (0 ≤ i ∧ i ≤ (S.length : Int) - 1) ∧ (s.size : Int) = 64 ∧ ¬ (C.length : Int) ≥ 60) := by
  rw [diskOk_iff, diskOk_iff]
  constructor
  · rintro ⟨h1, h2, h3, h4, h5⟩
    rw [List.length_append, List.length_singleton] at h3
    have h6 : 0 ≤ i ∧ i < (S.length : Int) ∧ s.size = 64 := h5 ⟨i, s⟩ (by simp)
    exact ⟨⟨h1, h2, by omega, h4, fun p hp => h5 p (by simp [hp])⟩, ⟨by omega, by omega⟩, by omega, by omega⟩
  · rintro ⟨⟨h1, h2, h3, h4, h5⟩, h6, h7, h8⟩
    refine ⟨h1, h2, by rw [List.length_append, List.length_singleton]; omega, h4, fun p hp => ?_⟩
    rcases List.mem_append.1 hp with hp | hp
    · exact h5 p hp
    · rw [List.mem_singleton] at hp
      subst hp
      exact ⟨h6.1, by show i < _; omega, by show s.size = 64; omega⟩
theorem spec_write (S : List ByteArray) (C : List IPut) (i : Int) (s : ByteArray) (hS : S.length ≤ 1099511627775) (hC : C.length ≤ 1099511627775) : Ev (fun k => spec_WriteSector.f k S C i s) (writeM S C i s) := by
  unfold spec_WriteSector.f writeM
  have a := spec_diskOk S C (by omega) (by omega)
  have c := spec_copy S C (by omega) (by omega)
  have e := diskOk_snoc S C i s
  rw [w64 (x := (S.length : Int) - 1) (by omega) (by omega)]
  refine ev_cbind c (ev_bind a (ev_if (fun h1 => ev_cbind (in_val _ _ _) (ev_if (fun h2 => ?_) (fun h2 => ?_))) (fun h1 => ?_)))
  · rw [decide_eq_true_eq] at h2
    refine ev_if (fun h3 => ev_if (fun h4 => ?_) (fun h4 => ?_)) (fun h3 => ?_)
    · rw [if_neg (fun h => (e.1 h).2.2.2 h4)]; exact Ev.now _
    · rw [if_pos (e.2 ⟨h1, h2, h3, h4⟩)]
      exact ev_pos (by show C.length < _; omega) (Ev.now _)
    · rw [if_neg (fun h => h3 (e.1 h).2.2.1)]; exact Ev.now _
  · rw [if_neg (fun h => h2 (decide_eq_true (e.1 h).2.1))]; exact Ev.now _
  · rw [if_neg (fun h => h1 (e.1 h).1)]; exact Ev.now _

def putAll (S : List ByteArray) (C : List IPut) : List ByteArray := C.foldl (fun s p => s.set p.f0.toNat p.f1) S
def flushM (S : List ByteArray) (C : List IPut) : List ByteArray × List IPut := if diskOkM S C = true then (putAll S C, []) else (S, C)
theorem impl_flush0 (C : List IPut) (hC : C.length ≤ 1099511627776) (n : Nat) (hg : ∀ p ∈ C, 0 ≤ p.f0 ∧ p.f0 < (n : Int)) (D : List IPut) : ∀ (rest pre : List IPut) (S : List ByteArray), C = pre ++ rest → S.length = n →
    Ev (fun k => impl_FlushDisk.l0 k C (C.length : Int) (pre.length : Int) S D) (putAll S rest, ([] : List IPut)) := by
  intro rest
  induction rest with
  | nil =>
    intro pre S e hS
    refine ev_step ?_
    simp only [impl_FlushDisk.l0]
    exact ev_neg (by rw [e]; simp) (Ev.now _)
  | cons p rest ih =>
    intro pre S e hS
    have hg2 : rd_T88 C (pre.length : Int) = p := by unfold rd_T88; rw [Int.toNat_natCast, e, getD_mid]
    have hlt : (pre.length : Int) < (C.length : Int) := by rw [e]; exact len_mid _ _ _
    have hp := hg p (by rw [e]; simp)
    have h := ih (pre ++ [p]) (S.set p.f0.toNat p.f1) (by simp [e]) (by simp [hS])
    rw [List.length_append, List.length_singleton] at h
    refine ev_step ?_
    simp only [impl_FlushDisk.l0]
    rw [hg2, next64 _ (by omega)]
    exact ev_pos hlt (ev_pos (by omega) (ev_pos hlt (ev_pos hp.1 (ev_pos (by rw [hS]; exact hp.2) h))))
theorem impl_flush (S : List ByteArray) (C : List IPut) (hS : S.length ≤ 1099511627776) (hC : C.length ≤ 1099511627776) : Ev (fun k => impl_FlushDisk.f k S C) (flushM S C) := by
  unfold impl_FlushDisk.f flushM
  refine ev_cbind (impl_copy S C hS hC) (ev_bind (impl_diskOk S C hS hC) (ev_if (fun h => ?_) (fun h => ?_)))
  · rw [if_pos h]
    have hg := (diskOk_iff S C).1 h
    exact impl_flush0 C hC S.length (fun p hp => ⟨(hg.2.2.2.2 p hp).1, (hg.2.2.2.2 p hp).2.1⟩) C C [] S rfl rfl
  · rw [if_neg h]; exact Ev.now _
theorem spec_flush0 (C : List IPut) (hC : C.length ≤ 1099511627776) (n : Nat) (hg : ∀ p ∈ C, 0 ≤ p.f0 ∧ p.f0 < (n : Int)) (S0 : List ByteArray) (D : List IPut) : ∀ (rest pre : List IPut) (S : List ByteArray), C = pre ++ rest → S.length = n →
    Ev (fun k => spec_FlushDisk.l0 k (pre.length : Int) S0 C S D) (putAll S rest, ([] : List IPut)) := by
  intro rest
  induction rest with
  | nil =>
    intro pre S e hS
    refine ev_step ?_
    simp only [spec_FlushDisk.l0]
    exact ev_neg (by rw [e]; simp) (Ev.now _)
  | cons p rest ih =>
    intro pre S e hS
    have hg2 : rd_T88 C (pre.length : Int) = p := by unfold rd_T88; rw [Int.toNat_natCast, e, getD_mid]
    have hlt : (pre.length : Int) < (C.length : Int) := by rw [e]; exact len_mid _ _ _
    have hp := hg p (by rw [e]; simp)
    have h := ih (pre ++ [p]) (S.set p.f0.toNat p.f1) (by simp [e]) (by simp [hS])
    rw [List.length_append, List.length_singleton] at h
    refine ev_step ?_
    simp only [spec_FlushDisk.l0]
    rw [hg2, next64 _ (by omega)]
    exact ev_pos hlt (ev_pos (by omega) (ev_pos hp.1 (ev_pos (by rw [hS]; exact hp.2) h)))
theorem spec_flush (S : List ByteArray) (C : List IPut) (hS : S.length ≤ 1099511627776) (hC : C.length ≤ 1099511627776) : Ev (fun k => spec_FlushDisk.f k S C) (flushM S C) := by
  unfold spec_FlushDisk.f flushM
  refine ev_cbind (spec_copy S C hS hC) (ev_bind (spec_diskOk S C hS hC) (ev_if (fun h => ?_) (fun h => ?_)))
  · rw [if_pos h]
    have hg := (diskOk_iff S C).1 h
    exact spec_flush0 C hC S.length (fun p hp => ⟨(hg.2.2.2.2 p hp).1, (hg.2.2.2.2 p hp).2.1⟩) S C C [] S rfl rfl
  · rw [if_neg h]; exact Ev.now _
theorem putAll_length (S : List ByteArray) (C : List IPut) : (putAll S C).length = S.length := by
  unfold putAll
  induction C generalizing S with
  | nil => rfl
  | cons p C ih => rw [List.foldl_cons, ih]; simp
theorem flush_lens (S : List ByteArray) (C : List IPut) : (flushM S C).1.length = S.length ∧ (flushM S C).2.length ≤ C.length := by
  unfold flushM
  split
  · exact ⟨putAll_length S C, by simp⟩
  · exact ⟨rfl, Nat.le_refl _⟩

/-! sectors, one behind the other -/
def secText (S : List ByteArray) (C : List IPut) (f : Int) : Nat → Int → ByteArray → ByteArray × Bool
  | 0, _, acc => (acc, true)
  | d + 1, i, acc => if (readM S C (f + i)).2 = true then secText S C f d (i + 1) (acc ++ (readM S C (f + i)).1) else ((⟨#[]⟩ : ByteArray), false)
def sectorTextM (S : List ByteArray) (C : List IPut) (f n : Int) : ByteArray × Bool := if 0 ≤ n ∧ n ≤ 100 then secText S C f n.toNat 0 (⟨#[]⟩ : ByteArray) else ((⟨#[]⟩ : ByteArray), false)
theorem lastPut_size (C : List IPut) (i : Int) (B : Nat) (hC : ∀ p ∈ C, p.f1.size ≤ B) : ∀ (d : ByteArray), d.size ≤ B → (lastPut C i d).size ≤ B := by
  unfold lastPut
  induction C with
  | nil => intro d hd; exact hd
  | cons p C ih =>
    intro d hd
    rw [List.foldl_cons]
    refine ih (fun q hq => hC q (by simp [hq])) _ ?_
    split
    · exact hC p (by simp)
    · exact hd
theorem readM_size (S : List ByteArray) (C : List IPut) (i : Int) (B : Nat) (hS : ∀ s ∈ S, s.size ≤ B) (hC : ∀ p ∈ C, p.f1.size ≤ B) : (readM S C i).1.size ≤ B := by
  unfold readM
  split
  · rename_i h
    refine lastPut_size C i B hC _ ?_
    rw [List.getD_eq_getElem?_getD, List.getElem?_eq_getElem (by omega)]
    exact hS _ (List.getElem_mem _)
  · exact Nat.zero_le _
theorem readM_wrap (S : List ByteArray) (C : List IPut) (f i : Int) (hS : S.length ≤ 1099511627776) (h0 : 0 ≤ i) (h1 : i ≤ 100) (hf : -9223372036854775808 ≤ f ∧ f < 9223372036854775808) : readM S C (wrap64 (f + i)) = readM S C (f + i) := by
  by_cases h : f + i < 9223372036854775808
  · rw [w64 (by omega) h]
  · have e : wrap64 (f + i) = f + i - 18446744073709551616 := by unfold wrap64; omega
    unfold readM
    rw [e, if_neg (by omega), if_neg (by omega)]
theorem impl_sec0 (S : List ByteArray) (C : List IPut) (f n : Int) (hS : S.length ≤ 1099511627776) (hC : C.length ≤ 1099511627776) (hf : -9223372036854775808 ≤ f ∧ f < 9223372036854775808) (hn : n ≤ 100) (hs : ∀ s ∈ S, s.size ≤ 1048576) (hp : ∀ p ∈ C, p.f1.size ≤ 1048576) :
    ∀ (d : Nat) (i : Int) (acc : List Int), 0 ≤ i → i + d = n → acc.length ≤ i.toNat * 1048576 → Ev (fun k => impl_SectorText.l0 k f n acc i S C) (secText S C f d i (strOfNums acc)) := by
  intro d
  induction d with
  | zero =>
    intro i acc h0 h1 h2
    refine ev_step ?_
    simp only [impl_SectorText.l0]
    exact ev_neg (by omega) (Ev.now _)
  | succ d ih =>
    intro i acc h0 h1 h2
    refine ev_step ?_
    simp only [impl_SectorText.l0]
    have hr := impl_read S C (wrap64 (f + i)) hS hC
    rw [readM_wrap S C f i hS h0 (by omega) hf] at hr
    have hsz := readM_size S C (f + i) 1048576 hs hp
    have e : wrap64 (i + 1) = i + 1 := w64 (by omega) (by omega)
    rw [e]
    refine ev_pos (by omega) (ev_bind hr ?_)
    unfold secText
    refine ev_if (fun c => ?_) (fun c => ?_)
    · rw [if_pos c]
      have h := ih (i + 1) (acc ++ bytesOf (readM S C (f + i)).1) (by omega) (by omega) (by
        have e1 : (i + 1).toNat = i.toNat + 1 := by omega
        rw [List.length_append, bytesOf_length, e1]; omega)
      rw [strOfNums_append, strOfNums_bytesOf] at h
      have e2 : i.toNat ≤ 100 := by omega
      have e3 : i.toNat * 1048576 ≤ 100 * 1048576 := Nat.mul_le_mul_right _ e2
      exact ev_pos (by omega) h
    · rw [if_neg c]; exact Ev.now _
theorem impl_sectorText (S : List ByteArray) (C : List IPut) (f n : Int) (hS : S.length ≤ 1099511627776) (hC : C.length ≤ 1099511627776) (hf : -9223372036854775808 ≤ f ∧ f < 9223372036854775808) (hs : ∀ s ∈ S, s.size ≤ 1048576) (hp : ∀ p ∈ C, p.f1.size ≤ 1048576) :
    Ev (fun k => impl_SectorText.f k S C f n) (sectorTextM S C f n) := by
  unfold impl_SectorText.f sectorTextM
  refine ev_cbind (within_val _ _ _) ?_
  by_cases h : 0 ≤ n ∧ n ≤ 100
  · rw [decide_eq_true h, if_pos h]
    exact ev_pos rfl (impl_sec0 S C f n hS hC hf h.2 hs hp n.toNat 0 [] (by omega) (by omega) (by simp))
  · rw [decide_eq_false h, if_neg h]
    exact ev_neg (by simp) (Ev.now _)
theorem spec_sec0 (S : List ByteArray) (C : List IPut) (f n : Int) (hS : S.length ≤ 1099511627776) (hC : C.length ≤ 1099511627776) (hf : -9223372036854775808 ≤ f ∧ f < 9223372036854775808) (hn : n ≤ 100) (hs : ∀ s ∈ S, s.size ≤ 1048576) (hp : ∀ p ∈ C, p.f1.size ≤ 1048576) :
    ∀ (d : Nat) (i : Int) (acc : ByteArray), 0 ≤ i → i + d = n → acc.size ≤ i.toNat * 1048576 → (i = 0 ∨ 0 ≤ f) → Ev (fun k => spec_SectorText.l0 k f n acc i S C) (secText S C f d i acc) := by
  intro d
  induction d with
  | zero =>
    intro i acc h0 h1 h2 h3
    refine ev_step ?_
    simp only [spec_SectorText.l0]
    exact ev_neg (by omega) (Ev.now _)
  | succ d ih =>
    intro i acc h0 h1 h2 h3
    refine ev_step ?_
    simp only [spec_SectorText.l0]
    have hr := spec_read S C (wrap64 (f + i)) hS hC
    rw [readM_wrap S C f i hS h0 (by omega) hf] at hr
    have hsz := readM_size S C (f + i) 1048576 hs hp
    have e : wrap64 (i + 1) = i + 1 := w64 (by omega) (by omega)
    refine ev_pos (by omega) ?_
    unfold secText
    have out : (f < 0 ∨ f > (S.length : Int)) → ¬ (readM S C (f + i)).2 = true := by
      intro ho
      have : ¬ (0 ≤ f + i ∧ f + i ≤ (S.length : Int) - 1) := by omega
      unfold readM
      rw [if_neg this]
      simp
    by_cases c1 : f < 0
    · refine ev_pos c1 (ev_step ?_)
      simp only [spec_SectorText.j1]
      refine ev_pos (by first | rfl | trivial) ?_
      rw [if_neg (out (.inl c1))]
      exact Ev.now _
    · refine ev_neg c1 (ev_step ?_)
      simp only [spec_SectorText.j1]
      by_cases c2 : f > (S.length : Int)
      · rw [decide_eq_true c2]
        refine ev_pos (by first | rfl | trivial) ?_
        rw [if_neg (out (.inr c2))]
        exact Ev.now _
      · rw [decide_eq_false c2, e]
        refine ev_neg (by simp) (ev_bind hr (ev_if (fun c => ?_) (fun c => ?_)))
        · rw [if_pos c]
          have h := ih (i + 1) (acc ++ (readM S C (f + i)).1) (by omega) (by omega) (by
            have e1 : (i + 1).toNat = i.toNat + 1 := by omega
            rw [ByteArray.size_append, e1]; omega) (.inr (by omega))
          have e2 : i.toNat ≤ 100 := by omega
          have e3 : i.toNat * 1048576 ≤ 100 * 1048576 := Nat.mul_le_mul_right _ e2
          exact ev_pos (by omega) h
        · rw [if_neg c]; exact Ev.now _
theorem spec_sectorText (S : List ByteArray) (C : List IPut) (f n : Int) (hS : S.length ≤ 1099511627776) (hC : C.length ≤ 1099511627776) (hf : -9223372036854775808 ≤ f ∧ f < 9223372036854775808) (hs : ∀ s ∈ S, s.size ≤ 1048576) (hp : ∀ p ∈ C, p.f1.size ≤ 1048576) :
    Ev (fun k => spec_SectorText.f k S C f n) (sectorTextM S C f n) := by
  unfold spec_SectorText.f sectorTextM
  refine ev_cbind (in_val _ _ _) ?_
  by_cases h : 0 ≤ n ∧ n ≤ 100
  · rw [decide_eq_true h, if_pos h]
    exact ev_pos rfl (spec_sec0 S C f n hS hC hf h.2 hs hp n.toNat 0 (⟨#[]⟩ : ByteArray) (by omega) (by omega) (by show 0 ≤ _; omega) (.inl rfl))
  · rw [decide_eq_false h, if_neg h]
    exact ev_neg (by simp) (Ev.now _)

/-! the drawing's cursor -/
theorem and255 (n : Int) : 0 ≤ Go.bits .and .i64 n 255 ∧ Go.bits .and .i64 n 255 ≤ 255 := by
  have h255 : (BitVec.ofInt 64 255).toNat = 2 ^ 8 - 1 := by decide
  have key : (BitVec.ofInt 64 n &&& BitVec.ofInt 64 255).toNat = (n % ((2 ^ 64 : Nat) : Int)).toNat % 2 ^ 8 := by
    rw [BitVec.toNat_and, BitVec.toNat_ofInt, h255, Nat.and_two_pow_sub_one_eq_mod]
  have e : Go.bits .and .i64 n 255 = n % 256 := by
    show IntKind.i64.wrap ((BitVec.ofInt 64 n &&& BitVec.ofInt 64 255).toNat : Nat) = n % 256
    rw [key, IntKind.wrap_i64]
    omega
  rw [e]
  omega
def CurOk (b : List Int) (i : Int) : Prop := 0 ≤ i ∧ i ≤ (b.length : Int)
theorem draw_byte (b : List Int) (i h : Int) (hb : b.length ≤ 1048576) (hi : CurOk b i) : ∃ r i' h', spec_l01Byte.f b i h = some (r, i', h') ∧ (0 ≤ r ∧ r ≤ 255) ∧ CurOk b i' := by
  unfold spec_l01Byte.f
  by_cases c : i < (b.length : Int)
  · rw [if_pos c, if_pos hi.1]
    refine ⟨_, _, _, rfl, and255 _, ?_⟩
    unfold CurOk at hi ⊢
    rw [w64 (by omega) (by omega)]
    omega
  · rw [if_neg c]
    exact ⟨_, _, _, rfl, and255 _, hi⟩
theorem draw_below (b : List Int) (i h n : Int) (hb : b.length ≤ 1048576) (hi : CurOk b i) : ∃ r i' h', spec_l01Below.f b i h n = some (r, i', h') ∧ 0 ≤ r ∧ (0 < n → r < n) ∧ (n ≤ 0 → r = 0) ∧ CurOk b i' := by
  unfold spec_l01Below.f
  by_cases c : n ≤ 0
  · rw [if_pos c]
    exact ⟨_, _, _, rfl, Int.le_refl _, fun h => by omega, fun _ => rfl, hi⟩
  rw [if_neg c]
  obtain ⟨r1, i1, h1, e1, q1, g1⟩ := draw_byte b i h hb hi
  by_cases c2 : n ≤ 256
  · rw [if_pos c2, e1, Option.bind_some, if_neg (by omega)]
    exact ⟨_, _, _, rfl, Int.tmod_nonneg _ q1.1, fun _ => Int.tmod_lt_of_pos _ (by omega), fun h => by omega, g1⟩
  · rw [if_neg c2]
    obtain ⟨r2, i2, h2, e2, q2, g2⟩ := draw_byte b i1 h1 hb g1
    obtain ⟨r3, i3, h3, e3, q3, g3⟩ := draw_byte b i2 h2 hb g2
    obtain ⟨r4, i4, h4, e4, q4, g4⟩ := draw_byte b i3 h3 hb g3
    simp only [e1, e2, e3, e4, Option.bind_some]
    rw [if_neg (by omega), w64 (x := r1 * 16777216) (by omega) (by omega), w64 (x := r2 * 65536) (by omega) (by omega), w64 (x := r1 * 16777216 + r2 * 65536) (by omega) (by omega), w64 (x := r3 * 256) (by omega) (by omega), w64 (x := r1 * 16777216 + r2 * 65536 + r3 * 256) (by omega) (by omega), w64 (x := r1 * 16777216 + r2 * 65536 + r3 * 256 + r4) (by omega) (by omega)]
    exact ⟨_, _, _, rfl, Int.tmod_nonneg _ (by omega), fun _ => Int.tmod_lt_of_pos _ (by omega), fun h => by omega, g4⟩
theorem draw_new0 (b : List Int) (hb : b.length ≤ 1048576) : ∀ (m j : Nat) (x : Int), j + m = b.length → ∃ h, Ev (fun k => spec_l01New.l0 k b x (j : Int)) (b, 0, h)
  | 0, j, x, e => by
    refine ⟨x, ev_step ?_⟩
    simp only [spec_l01New.l0]
    exact ev_neg (by omega) (Ev.now _)
  | m + 1, j, x, e => by
    by_cases c : (j : Int) < 4000
    · obtain ⟨h, hh⟩ := draw_new0 b hb m (j + 1) (Go.bits .and .i64 (wrap64 ((wrap64 ((wrap64 (x * 131)) + (wrap64 (rd b (j : Int))))) + 7)) 1073741823) (by omega)
      refine ⟨h, ev_step ?_⟩
      simp only [spec_l01New.l0]
      rw [next64 _ (by omega)]
      exact ev_pos (by omega) (ev_pos c (ev_pos (by omega) hh))
    · refine ⟨x, ev_step ?_⟩
      simp only [spec_l01New.l0]
      exact ev_pos (by omega) (ev_neg c (Ev.now _))
theorem draw_new (b : List Int) (hb : b.length ≤ 1048576) : ∃ h, Ev (fun k => spec_l01New.f k b) (b, 0, h) := draw_new0 b hb b.length 0 _ (by omega)
theorem cur0 (b : List Int) : CurOk b 0 := ⟨Int.le_refl _, by omega⟩
theorem strOfNums_size (x : List Int) : (strOfNums x).size = x.length := by
  show (List.map (fun n : Int => UInt8.ofNat n.toNat) x).toArray.size = _
  simp

theorem draw_text0 (b : List Int) (hb : b.length ≤ 1048576) (N : Nat) (hN : N ≤ 5000) : ∀ (m j : Nat) (x : List Int) (i h : Int), j + m = N → x.length = j → CurOk b i → ∃ s i' h', Ev (fun k => spec_l01Text.l0 k (N : Int) x (j : Int) b i h) (s, i', h') ∧ s.size = N ∧ CurOk b i'
  | 0, j, x, i, h, e, hx, g => by
    refine ⟨strOfNums x, i, h, ev_step ?_, by rw [strOfNums_size]; omega, g⟩
    simp only [spec_l01Text.l0]
    exact ev_neg (by omega) (Ev.now _)
  | m + 1, j, x, i, h, e, hx, g => by
    obtain ⟨r, i1, h1, e1, q1, g1⟩ := draw_byte b i h hb g
    obtain ⟨s, i2, h2, e2, hs, g2⟩ := draw_text0 b hb N hN m (j + 1) (x ++ [r % 256]) i1 h1 (by omega) (by simp [hx]) g1
    refine ⟨s, i2, h2, ev_step ?_, hs, g2⟩
    simp only [spec_l01Text.l0]
    rw [next64 _ (by omega)]
    exact ev_pos (by omega) (ev_cbind e1 (ev_pos (by omega) e2))
theorem draw_text (b : List Int) (i h n : Int) (hb : b.length ≤ 1048576) (hi : CurOk b i) : ∃ s i' h', Ev (fun k => spec_l01Text.f k b i h n) (s, i', h') ∧ (s.size ≤ 5000 ∧ (n ≤ 5000 → s.size = n.toNat)) ∧ CurOk b i' := by
  unfold spec_l01Text.f
  by_cases c : n > 5000
  · obtain ⟨s, i2, h2, e2, hs, g2⟩ := draw_text0 b hb 5000 (by omega) 5000 0 [] i h (by omega) rfl hi
    refine ⟨s, i2, h2, ev_pos c (ev_step ?_), ⟨by omega, fun hn => by omega⟩, g2⟩
    simp only [spec_l01Text.j0]
    exact e2
  · by_cases c2 : n ≤ 0
    · refine ⟨strOfNums [], i, h, ev_neg c (ev_step ?_), ⟨by rw [strOfNums_size]; simp, fun hn => by rw [strOfNums_size]; simp; omega⟩, hi⟩
      simp only [spec_l01Text.j0]
      refine ev_step ?_
      simp only [spec_l01Text.l0]
      exact ev_neg (by omega) (Ev.now _)
    · obtain ⟨N, rfl⟩ : ∃ N : Nat, n = (N : Int) := ⟨n.toNat, by omega⟩
      obtain ⟨s, i2, h2, e2, hs, g2⟩ := draw_text0 b hb N (by omega) N 0 [] i h (by omega) rfl hi
      refine ⟨s, i2, h2, ev_neg c (ev_step ?_), ⟨by omega, fun hn => by omega⟩, g2⟩
      simp only [spec_l01Text.j0]
      exact e2
theorem draw_once (b : List Int) (i h n : Int) (hb : b.length ≤ 1048576) (hi : CurOk b i) : ∃ r i' h', spec_l01Once.f b i h n = some (r, i', h') ∧ CurOk b i' := by
  unfold spec_l01Once.f
  obtain ⟨r, i1, h1, e1, _, _, _, g1⟩ := draw_below b i h n hb hi
  rw [e1, Option.bind_some]
  exact ⟨_, _, _, rfl, g1⟩

/-! long texts of one byte -/
theorem long0 (N : Nat) (x : Int) (hN : N ≤ 1099511627776) : ∀ (m j : Nat), j + m = N → Ev (fun k => spec_l01Long.l0 k (N : Int) x (List.replicate j x ++ List.replicate m 0) (j : Int)) (strOfNums (List.replicate N x))
  | 0, j, e => by
    refine ev_step ?_
    simp only [spec_l01Long.l0]
    obtain rfl : j = N := by omega
    exact ev_neg (by omega) (ev_now (by simp))
  | m + 1, j, e => by
    refine ev_step ?_
    simp only [spec_l01Long.l0]
    have h := long0 N x hN m (j + 1) (by omega)
    have hs : (List.replicate j x ++ List.replicate (m + 1) (0 : Int)).set (j : Int).toNat x = List.replicate (j + 1) x ++ List.replicate m 0 := by
      rw [Int.toNat_natCast, List.set_append_right _ _ (by simp), List.length_replicate, Nat.sub_self, List.replicate_succ, List.set_cons_zero, List.replicate_succ']
      simp
    rw [hs, next64 _ (by omega)]
    exact ev_pos (by omega) (ev_pos (by omega) (ev_pos (by simp; omega) h))
theorem long_ok (N : Nat) (x : Int) (hN : N ≤ 1099511627776) : Ev (fun k => spec_l01Long.f k (N : Int) x) (strOfNums (List.replicate N x)) := by
  unfold spec_l01Long.f
  rw [Int.toNat_natCast]
  have h := long0 N x hN N 0 (by omega)
  exact ev_pos (by omega) (ev_pos (by omega) h)
def zero64 : ByteArray := strOfNums (List.replicate 64 0)
theorem zero64_size : zero64.size = 64 := by rw [zero64, strOfNums_size]; simp
theorem zero_ok : Ev (fun k => spec_l03Zero.f k) zero64 := by
  unfold spec_l03Zero.f
  exact ev_bind (long_ok 64 0 (by omega)) (Ev.now _)
theorem spec_new0 (N : Nat) (hN : N ≤ 100) : ∀ (m j : Nat), j + m = N → Ev (fun k => spec_DiskNew.l0 k (N : Int) (j : Int) (List.replicate j zero64)) (List.replicate N zero64, ([] : List IPut), true)
  | 0, j, e => by
    refine ev_step ?_
    simp only [spec_DiskNew.l0]
    obtain rfl : j = N := by omega
    exact ev_neg (by omega) (Ev.now _)
  | m + 1, j, e => by
    refine ev_step ?_
    simp only [spec_DiskNew.l0]
    have h := spec_new0 N hN m (j + 1) (by omega)
    rw [next64 _ (by omega)]
    rw [List.replicate_succ'] at h
    exact ev_pos (by omega) (ev_bind zero_ok (ev_pos (by simp; omega) h))
theorem spec_new (N : Nat) (h1 : 1 ≤ N) (hN : N ≤ 100) : Ev (fun k => spec_DiskNew.f k (N : Int)) (List.replicate N zero64, ([] : List IPut), true) := by
  unfold spec_DiskNew.f
  exact ev_cbind (in_val _ _ _) (ev_pos (by rw [decide_eq_true_eq]; omega) (spec_new0 N hN N 0 (by omega)))

theorem new_diskOk (N : Nat) (h1 : 1 ≤ N) (hN : N ≤ 100) : diskOkM (List.replicate N zero64) [] = true := (diskOk_iff _ _).2 ⟨by simpa using h1, by simpa using hN, by simp, fun s hs => by rw [(List.mem_replicate.1 hs).2]; exact zero64_size, fun p hp => by cases hp⟩

set_option maxRecDepth 20000 in
theorem repeat_zero : strings_Repeat.f (⟨#[0]⟩ : ByteArray) 64 = some zero64 := by
  unfold strings_Repeat.f
  rw [if_pos (by decide)]
  rfl
theorem impl_new0 (N : Nat) (hN : N ≤ 100) : ∀ (m j : Nat), j + m = N → Ev (fun k => impl_DiskNew.l0 k (N : Int) (j : Int) (List.replicate j zero64)) (List.replicate N zero64, ([] : List IPut), true)
  | 0, j, e => by
    refine ev_step ?_
    simp only [impl_DiskNew.l0]
    obtain rfl : j = N := by omega
    exact ev_neg (by omega) (Ev.now _)
  | m + 1, j, e => by
    refine ev_step ?_
    simp only [impl_DiskNew.l0]
    have h := impl_new0 N hN m (j + 1) (by omega)
    rw [next64 _ (by omega)]
    rw [List.replicate_succ'] at h
    exact ev_pos (by omega) (ev_cbind repeat_zero (ev_pos (by simp; omega) h))
def newM (n : Int) : List ByteArray × List IPut × Bool := if 1 ≤ n ∧ n ≤ 100 then (List.replicate n.toNat zero64, [], true) else ([], [], false)
theorem impl_newM (n : Int) : Ev (fun k => impl_DiskNew.f k n) (newM n) := by
  unfold impl_DiskNew.f newM
  refine ev_cbind (within_val _ _ _) ?_
  by_cases c : 1 ≤ n ∧ n ≤ 100
  · rw [if_pos c]
    have h := impl_new0 n.toNat (by omega) n.toNat 0 (by omega)
    rw [Int.toNat_of_nonneg (by omega)] at h
    exact ev_pos (decide_eq_true c) h
  · rw [if_neg c]
    exact ev_neg (by rw [decide_eq_true_eq]; exact c) (Ev.now _)
theorem newM_lens (n : Int) : (newM n).1.length ≤ 100 ∧ (newM n).2.1.length ≤ 100 := by
  unfold newM
  split
  · exact ⟨by show (List.replicate _ _).length ≤ 100; rw [List.length_replicate]; omega, Nat.zero_le _⟩
  · exact ⟨Nat.zero_le _, Nat.zero_le _⟩

/-! bytes written over sectors -/
def patchM (was : ByteArray) (F : Nat) (s : ByteArray) (n : Nat) : ByteArray := (was.extract 0 F ++ s) ++ was.extract (F + n) was.size
def chunkN (t : ByteArray) (F i : Nat) : Nat := min (64 - F) (t.size - i)
def heldAt (S : List ByteArray) (C : List IPut) (k : Int) : ByteArray := lastPut C k (S.getD k.toNat ByteArray.empty)
def wbM (S : List ByteArray) (t : ByteArray) : Nat → List IPut → Int → Nat → Nat → Option (List IPut)
  | 0, C, _, _, _ => some C
  | m + 1, C, k, F, i => if t.size ≤ i then some C else if 0 ≤ k ∧ k ≤ (S.length : Int) - 1 ∧ C.length < 60 then
      wbM S t m (C ++ [(⟨k, patchM (heldAt S C k) F (t.extract i (i + chunkN t F i)) (chunkN t F i)⟩ : IPut)]) (k + 1) 0 (i + chunkN t F i) else none
def wbEnd (S : List ByteArray) (C : List IPut) : Option (List IPut) → List ByteArray × List IPut × Bool
  | some C' => (S, C', true)
  | none => (S, C, false)
def wbytesM (S : List ByteArray) (C : List IPut) (sector at_ : Int) (t : ByteArray) : List ByteArray × List IPut × Bool :=
  if (0 ≤ at_ ∧ at_ ≤ 6400) ∧ (0 ≤ sector ∧ sector ≤ (S.length : Int) - 1) then wbEnd S C (wbM S t t.size C (sector + at_ / 64) (at_ % 64).toNat 0) else (S, C, false)
theorem lastPut_64 (C : List IPut) (i : Int) (hC : ∀ p ∈ C, p.f1.size = 64) : ∀ (d : ByteArray), d.size = 64 → (lastPut C i d).size = 64 := by
  induction C with
  | nil => intro d h; exact h
  | cons p C ih =>
    intro d h
    show (lastPut C i (if p.f0 = i then p.f1 else d)).size = 64
    refine ih (fun q hq => hC q (by simp [hq])) _ ?_
    split
    · exact hC p (by simp)
    · exact h
theorem heldAt_64 (S : List ByteArray) (C : List IPut) (k : Int) (hd : diskOkM S C = true) (h0 : 0 ≤ k) (h1 : k ≤ (S.length : Int) - 1) : (heldAt S C k).size = 64 := by
  obtain ⟨_, _, _, h4, h5⟩ := (diskOk_iff S C).1 hd
  refine lastPut_64 C k (fun p hp => (h5 p hp).2.2) _ ?_
  have h2 : k.toNat < S.length := by omega
  rw [List.getD_eq_getElem?_getD, List.getElem?_eq_getElem h2, Option.getD_some]
  exact h4 _ (List.getElem_mem h2)
theorem patch_64 (was s : ByteArray) (F n : Nat) (hw : was.size = 64) (hs : s.size = n) (hn : F + n ≤ 64) : (patchM was F s n).size = 64 := by
  unfold patchM
  rw [ByteArray.size_append, ByteArray.size_append, ByteArray.size_extract, ByteArray.size_extract, hw, hs]
  omega
theorem chunk_size (t : ByteArray) (F i : Nat) (hi : i ≤ t.size) : (t.extract i (i + chunkN t F i)).size = chunkN t F i := by
  unfold chunkN
  rw [ByteArray.size_extract]
  omega
theorem chunk_facts (t : ByteArray) (F i : Nat) (hF : F < 64) (hi : i < t.size) : F + chunkN t F i ≤ 64 ∧ i + chunkN t F i ≤ t.size ∧ 1 ≤ chunkN t F i ∧ (F + chunkN t F i = 64 ∨ i + chunkN t F i = t.size) := by
  unfold chunkN
  omega
theorem wbM_ok (S : List ByteArray) (t : ByteArray) : ∀ (m : Nat) (C : List IPut) (k : Int) (F i : Nat) (C' : List IPut), F < 64 → i ≤ t.size → diskOkM S C = true → wbM S t m C k F i = some C' → diskOkM S C' = true ∧ C'.length ≤ C.length + (F + (t.size - i) + 63) / 64
  | 0, C, k, F, i, C', hF, hi, hd, h => by
    rw [wbM] at h
    obtain rfl := Option.some.inj h
    exact ⟨hd, by omega⟩
  | m + 1, C, k, F, i, C', hF, hi, hd, h => by
    rw [wbM] at h
    by_cases c : t.size ≤ i
    · rw [if_pos c] at h
      obtain rfl := Option.some.inj h
      exact ⟨hd, by omega⟩
    rw [if_neg c] at h
    by_cases c2 : 0 ≤ k ∧ k ≤ (S.length : Int) - 1 ∧ C.length < 60
    · rw [if_pos c2] at h
      have hc := chunk_size t F i hi
      have hn := chunk_facts t F i hF (by omega)
      have hp := patch_64 _ _ F (chunkN t F i) (heldAt_64 S C k hd c2.1 c2.2.1) hc hn.1
      have hd2 := (diskOk_snoc S C k (patchM (heldAt S C k) F (t.extract i (i + chunkN t F i)) (chunkN t F i))).2 ⟨hd, ⟨c2.1, c2.2.1⟩, by omega, by omega⟩
      obtain ⟨r1, r2⟩ := wbM_ok S t m _ _ 0 _ C' (by omega) (by omega) hd2 h
      refine ⟨r1, ?_⟩
      rw [List.length_append, List.length_singleton] at r2
      generalize chunkN t F i = n at hn r2
      omega
    · rw [if_neg c2] at h
      cases h
theorem wbytes_ok (S : List ByteArray) (C : List IPut) (sector at_ : Int) (t : ByteArray) (hd : diskOkM S C = true) (B : Nat) (ht : t.size ≤ 64 * B) : (wbytesM S C sector at_ t).1 = S ∧ diskOkM S (wbytesM S C sector at_ t).2.1 = true ∧ (wbytesM S C sector at_ t).2.1.length ≤ C.length + (B + 1) := by
  unfold wbytesM
  split
  · rename_i h
    cases hw : wbM S t t.size C (sector + at_ / 64) (at_ % 64).toNat 0 with
    | none => exact ⟨rfl, hd, by show C.length ≤ _; omega⟩
    | some C' =>
      obtain ⟨r1, r2⟩ := wbM_ok S t t.size C _ (at_ % 64).toNat 0 C' (by omega) (by omega) hd hw
      exact ⟨rfl, r1, by show C'.length ≤ _; omega⟩
  · exact ⟨rfl, hd, by show C.length ≤ _; omega⟩
theorem readM_in (S : List ByteArray) (C : List IPut) (k : Int) (h0 : 0 ≤ k) (h1 : k ≤ (S.length : Int) - 1) : readM S C k = (heldAt S C k, true) := by
  unfold readM heldAt
  rw [if_pos ⟨h0, h1⟩]
theorem readM_out (S : List ByteArray) (C : List IPut) (k : Int) (h : ¬ (0 ≤ k ∧ k ≤ (S.length : Int) - 1)) : readM S C k = ((⟨#[]⟩ : ByteArray), false) := by
  unfold readM
  rw [if_neg h]

theorem spec_wb0 (S : List ByteArray) (C0 : List IPut) (t : ByteArray) (x1 x2 : Int) (h1 : 0 ≤ x1 ∧ x1 ≤ 100) (h2 : 0 ≤ x2 ∧ x2 ≤ 6400) (hS : S.length ≤ 100) (hC0 : C0.length ≤ 60) (ht : t.size ≤ 1099511627776) :
    ∀ (m : Nat) (C : List IPut) (k : Int) (F i : Nat), t.size - i ≤ m → i ≤ t.size → diskOkM S C = true → (t.size ≤ i ∨ (k = x1 + (x2 + i) / 64 ∧ (F : Int) = (x2 + i) % 64)) →
    Ev (fun q => spec_WriteBytes.l0 q x1 x2 t (i : Int) S C0 S C) (wbEnd S C0 (wbM S t m C k F i))
  | 0, C, k, F, i, hm, hi, hd, hk => by
    refine ev_step ?_
    simp only [spec_WriteBytes.l0]
    exact ev_neg (by omega) (Ev.now _)
  | m' + 1, C, k, F, i, hm, hi, hd, hk => by
    refine ev_step ?_
    simp only [spec_WriteBytes.l0]
    by_cases c : t.size ≤ i
    · have e : wbM S t (m' + 1) C k F i = some C := by rw [wbM, if_pos c]
      rw [e]
      exact ev_neg (by omega) (Ev.now _)
    obtain ⟨hk1, hk2⟩ := hk.resolve_left c
    have e1 : wrap64 (x2 + (i : Int)) = x2 + i := w64 (by omega) (by omega)
    have e2 : Int.tmod (x2 + (i : Int)) 64 = (F : Int) := by rw [hk2]; exact Int.tmod_eq_emod_of_nonneg (by omega)
    have e3 : Int.tdiv (x2 + (i : Int)) 64 = (x2 + i) / 64 := Int.tdiv_eq_ediv_of_nonneg (by omega)
    have e4 : wrap64 ((x2 + (i : Int)) / 64) = (x2 + i) / 64 := w64 (by omega) (by omega)
    have e5 : wrap64 (x1 + (x2 + (i : Int)) / 64) = k := by rw [hk1]; exact w64 (by omega) (by omega)
    have e6 : wrap64 (64 - (F : Int)) = 64 - F := w64 (by omega) (by omega)
    have e7 : wrap64 ((t.size : Int) - (i : Int)) = (t.size : Int) - i := w64 (by omega) (by omega)
    have hF : F < 64 := by omega
    rw [e1, e2, e3, e4, e5, e6, e7]
    clear hk e1 e2 e3 e4 e5 e6 e7
    refine ev_pos (by omega) ?_
    have go : Ev (fun q => spec_WriteBytes.j2 q x1 x2 t (i : Int) k (F : Int) ((chunkN t F i : Nat) : Int) S C0 S C) (wbEnd S C0 (wbM S t (m' + 1) C k F i)) := by
      refine ev_step ?_
      simp only [spec_WriteBytes.j2]
      have hrd := spec_read S C k (by omega) (by have := ((diskOk_iff S C).1 hd).2.2.1; omega)
      by_cases c2 : 0 ≤ k ∧ k ≤ (S.length : Int) - 1
      · rw [readM_in S C k c2.1 c2.2] at hrd
        have hw := heldAt_64 S C k hd c2.1 c2.2
        have hsz : ((heldAt S C k).size : Int) = 64 := by omega
        refine ev_bind hrd (ev_pos (by first | rfl | trivial) ?_)
        show Ev (fun q => spec_WriteBytes.j3 q x1 x2 t (i : Int) k (F : Int) ((chunkN t F i : Nat) : Int) (heldAt S C k) (((heldAt S C k).size : Int) != 64) S C0 S C) _
        rw [hsz]
        refine ev_step ?_
        simp only [spec_WriteBytes.j3]
        have hn := chunk_facts t F i hF (by omega)
        have hc := chunk_size t F i hi
        have f1 : wrap64 ((i : Int) + ((chunkN t F i : Nat) : Int)) = ((i + chunkN t F i : Nat) : Int) := by rw [w64 (by omega) (by omega)]; omega
        have f2 : wrap64 ((F : Int) + ((chunkN t F i : Nat) : Int)) = ((F + chunkN t F i : Nat) : Int) := by rw [w64 (by omega) (by omega)]; omega
        rw [f1, f2]
        clear f1 f2
        simp only [Int.toNat_natCast]
        rw [hw]
        have hp := patch_64 _ _ F (chunkN t F i) hw hc hn.1
        have hwr := spec_write S C k (patchM (heldAt S C k) F (t.extract i (i + chunkN t F i)) (chunkN t F i)) (by omega) (by have := ((diskOk_iff S C).1 hd).2.2.1; omega)
        have hp2 : patchM (heldAt S C k) F (t.extract i (i + chunkN t F i)) (chunkN t F i) = (heldAt S C k).extract 0 F ++ t.extract i (i + chunkN t F i) ++ (heldAt S C k).extract (F + chunkN t F i) 64 := by unfold patchM; rw [hw]
        have s1 : ((heldAt S C k).extract 0 F).size + (t.extract i (i + chunkN t F i)).size ≤ 9223372036854775807 := by rw [ByteArray.size_extract, hc, hw]; omega
        have s2 : (((heldAt S C k).extract 0 F) ++ (t.extract i (i + chunkN t F i))).size + ((heldAt S C k).extract (F + chunkN t F i) 64).size ≤ 9223372036854775807 := by
          rw [ByteArray.size_append, ByteArray.size_extract, hc, ByteArray.size_extract, hw]; omega
        refine ev_neg (by decide) (ev_pos (by omega) (ev_pos (by omega) (ev_pos (by omega) (ev_pos (by omega) (ev_pos (by omega) (ev_pos s1 (ev_pos (by omega) (ev_pos (by omega) (ev_pos s2 ?_)))))))))
        rw [← hp2, wbM, if_neg c]
        unfold writeM at hwr
        by_cases c3 : C.length < 60
        · have hd2 := (diskOk_snoc S C k (patchM (heldAt S C k) F (t.extract i (i + chunkN t F i)) (chunkN t F i))).2 ⟨hd, c2, by omega, by omega⟩
          rw [if_pos hd2] at hwr
          rw [if_pos ⟨c2.1, c2.2, c3⟩]
          refine ev_bind hwr (ev_pos (by first | rfl | trivial) ?_)
          refine spec_wb0 S C0 t x1 x2 h1 h2 hS hC0 ht m' _ _ 0 _ (by omega) (by omega) hd2 ?_
          rcases hn.2.2.2 with q | q
          · refine .inr ⟨?_, ?_⟩
            · rw [hk1]; omega
            · omega
          · exact .inl (by omega)
        · rw [if_neg (fun h => c3 h.2.2)]
          rw [if_neg (fun h => by have := ((diskOk_snoc S C k _).1 h).2.2.2; omega)] at hwr
          exact ev_bind hwr (ev_neg (by simp) (ev_cbind (spec_copy S C0 (by omega) (by omega)) (Ev.now _)))
      · rw [readM_out S C k c2] at hrd
        rw [wbM, if_neg c, if_neg (fun h => c2 ⟨h.1, h.2.1⟩)]
        refine ev_bind hrd (ev_neg (by decide) (ev_step ?_))
        simp only [spec_WriteBytes.j3]
        exact ev_pos (by first | rfl | trivial) (ev_cbind (spec_copy S C0 (by omega) (by omega)) (Ev.now _))
    by_cases c4 : (64 : Int) - F > (t.size : Int) - i
    · have e : (t.size : Int) - i = ((chunkN t F i : Nat) : Int) := by unfold chunkN; omega
      refine ev_pos c4 ?_
      rw [e]
      exact go
    · have e : (64 : Int) - F = ((chunkN t F i : Nat) : Int) := by unfold chunkN; omega
      refine ev_neg c4 ?_
      rw [e]
      exact go
theorem spec_wb (S : List ByteArray) (C : List IPut) (sector at_ : Int) (t : ByteArray) (hd : diskOkM S C = true) (ht : t.size ≤ 1099511627776) : Ev (fun k => spec_WriteBytes.f k S C sector at_ t) (wbytesM S C sector at_ t) := by
  obtain ⟨d1, d2, d3, _, _⟩ := (diskOk_iff S C).1 hd
  have hdo := spec_diskOk S C (by omega) (by omega)
  rw [hd] at hdo
  have out : Ev (fun k => spec_WriteBytes.j0 k sector at_ t true S C S C) (S, C, false) := by
    refine ev_step ?_
    simp only [spec_WriteBytes.j0]
    exact ev_pos (by first | rfl | trivial) (Ev.now _)
  unfold spec_WriteBytes.f wbytesM
  rw [w64 (x := (S.length : Int) - 1) (by omega) (by omega)]
  refine ev_cbind (spec_copy S C (by omega) (by omega)) (ev_cbind (in_val _ _ _) ?_)
  by_cases c1 : 0 ≤ at_ ∧ at_ ≤ 6400
  · refine ev_pos (decide_eq_true c1) (ev_cbind (in_val _ _ _) ?_)
    by_cases c2 : 0 ≤ sector ∧ sector ≤ (S.length : Int) - 1
    · rw [if_pos ⟨c1, c2⟩]
      refine ev_pos (decide_eq_true c2) (ev_bind hdo ?_)
      refine ev_step ?_
      simp only [spec_WriteBytes.j0]
      refine ev_neg (by decide) ?_
      exact spec_wb0 S C t sector at_ (by omega) c1 (by omega) (by omega) ht t.size C _ (at_ % 64).toNat 0 (by omega) (by omega) hd (.inr ⟨by simp, by simp; omega⟩)
    · rw [if_neg (fun h => c2 h.2)]
      exact ev_neg (by rw [decide_eq_true_eq]; exact c2) out
  · rw [if_neg (fun h => c1 h.1)]
    exact ev_neg (by rw [decide_eq_true_eq]; exact c1) out

theorem putAll_64 (C : List IPut) (hC : ∀ p ∈ C, p.f1.size = 64) : ∀ (S : List ByteArray), (∀ s ∈ S, s.size = 64) → ∀ s ∈ putAll S C, s.size = 64 := by
  induction C with
  | nil => intro S h; exact h
  | cons p C ih =>
    intro S h
    show ∀ s ∈ putAll (S.set p.f0.toNat p.f1) C, s.size = 64
    refine ih (fun q hq => hC q (by simp [hq])) _ (fun a ha => ?_)
    rcases List.mem_or_eq_of_mem_set ha with h2 | rfl
    · exact h a h2
    · exact hC p (by simp)
theorem flush_ok (S : List ByteArray) (C : List IPut) (hd : diskOkM S C = true) : flushM S C = (putAll S C, []) ∧ diskOkM (putAll S C) [] = true := by
  refine ⟨by unfold flushM; rw [if_pos hd], ?_⟩
  obtain ⟨h1, h2, h3, h4, h5⟩ := (diskOk_iff S C).1 hd
  exact (diskOk_iff _ _).2 ⟨by rw [putAll_length]; exact h1, by rw [putAll_length]; exact h2, by simp, putAll_64 C (fun p hp => (h5 p hp).2.2) S h4, fun p hp => by cases hp⟩

/-! what is drawn -/
theorem draw_disk0 (b : List Int) (hb : b.length ≤ 1048576) : ∀ (m j : Nat) (i h : Int) (S : List ByteArray) (C : List IPut), j + m = 9 → CurOk b i → diskOkM S C = true → C.length ≤ 3 * j →
    ∃ S' C' i' h', Ev (fun k => spec_l03Disk.l0 k (j : Int) b i h S C) (S', C', i', h') ∧ diskOkM S' C' = true ∧ C'.length ≤ 27 ∧ CurOk b i'
  | 0, j, i, h, S, C, e, g, hd, hl => by
    obtain ⟨r, i1, h1, e1, q1, q2, _, g1⟩ := draw_below b i h 9 hb g
    have q3 := q2 (by decide)
    refine ⟨S, C, i1, h1, ev_step ?_, hd, by omega, g1⟩
    simp only [spec_l03Disk.l0]
    exact ev_cbind e1 (ev_neg (by omega) (Ev.now _))
  | m' + 1, j, i, h, S, C, e, g, hd, hl => by
    obtain ⟨r, i1, h1, e1, q1, q2, _, g1⟩ := draw_below b i h 9 hb g
    by_cases c : (j : Int) < r
    · have q3 := q2 (by decide)
      obtain ⟨r2, i2, h2, e2, _, _, _, g2⟩ := draw_below b i1 h1 (S.length : Int) hb g1
      obtain ⟨r3, i3, h3, e3, _, _, _, g3⟩ := draw_below b i2 h2 70 hb g2
      obtain ⟨r4, i4, h4, e4, q4, q5, _, g4⟩ := draw_below b i3 h3 90 hb g3
      obtain ⟨s, i5, h5, e5, q6, g5⟩ := draw_text b i4 h4 r4 hb g4
      have q7 := q5 (by decide)
      have hs : s.size ≤ 64 * 2 := by rw [q6.2 (by omega)]; omega
      have e6 := spec_wb S C r2 r3 s hd (by omega)
      obtain ⟨w1, w2, w3⟩ := wbytes_ok S C r2 r3 s hd 2 hs
      generalize wbytesM S C r2 r3 s = W at e6 w1 w2 w3
      obtain ⟨W1, W2, W3⟩ := W
      simp only at w1 w2 w3
      subst w1
      obtain ⟨r7, i7, h7, e7, g7⟩ := draw_once b i5 h5 4 hb g5
      have hd2 := (diskOk_iff _ _).1 w2
      obtain ⟨f1, f2⟩ := flush_ok W1 W2 w2
      have e8 := spec_flush W1 W2 (by omega) (by omega)
      rw [f1] at e8
      by_cases c2 : r7 = true
      · obtain ⟨S', C', i', h', e9, d9, l9, g9⟩ := draw_disk0 b hb m' (j + 1) i7 h7 (putAll W1 W2) [] (by omega) g7 f2 (by simp)
        refine ⟨S', C', i', h', ev_step ?_, d9, l9, g9⟩
        simp only [spec_l03Disk.l0]
        rw [next64 _ (by omega)]
        exact ev_cbind e1 (ev_pos c (ev_cbind e2 (ev_cbind e3 (ev_cbind e4 (ev_bind e5 (ev_bind e6 (ev_cbind e7 (ev_pos c2 (ev_bind e8 e9)))))))))
      · obtain ⟨S', C', i', h', e9, d9, l9, g9⟩ := draw_disk0 b hb m' (j + 1) i7 h7 W1 W2 (by omega) g7 w2 (by omega)
        refine ⟨S', C', i', h', ev_step ?_, d9, l9, g9⟩
        simp only [spec_l03Disk.l0]
        rw [next64 _ (by omega)]
        exact ev_cbind e1 (ev_pos c (ev_cbind e2 (ev_cbind e3 (ev_cbind e4 (ev_bind e5 (ev_bind e6 (ev_cbind e7 (ev_neg c2 e9))))))))
    · refine ⟨S, C, i1, h1, ev_step ?_, hd, by omega, g1⟩
      simp only [spec_l03Disk.l0]
      exact ev_cbind e1 (ev_neg c (Ev.now _))
theorem draw_l03 (b : List Int) (i h : Int) (hb : b.length ≤ 1048576) (g : CurOk b i) : ∃ S C i' h', Ev (fun k => spec_l03Disk.f k b i h) (S, C, i', h') ∧ diskOkM S C = true ∧ C.length ≤ 27 ∧ CurOk b i' := by
  unfold spec_l03Disk.f
  obtain ⟨r, i1, h1, e1, q1, q2, _, g1⟩ := draw_below b i h 6 hb g
  have q3 := q2 (by decide)
  obtain ⟨N, hN⟩ : ∃ N : Nat, wrap64 (1 + r) = (N : Int) := ⟨(1 + r).toNat, by rw [w64 (by omega) (by omega)]; omega⟩
  rw [w64 (by omega) (by omega)] at hN
  have e2 := spec_new N (by omega) (by omega)
  obtain ⟨S', C', i', h', e9, d9, l9, g9⟩ := draw_disk0 b hb 9 0 i1 h1 (List.replicate N zero64) [] rfl g1 (new_diskOk N (by omega) (by omega)) (by simp)
  refine ⟨S', C', i', h', ev_cbind e1 ?_, d9, l9, g9⟩
  have hN2 : wrap64 (1 + r) = (N : Int) := by rw [w64 (by omega) (by omega)]; exact hN
  show Ev (fun k => (spec_DiskNew.f k (wrap64 (1 + r))).bind _) _
  rw [hN2]
  exact ev_bind e2 e9

theorem draw_pickint (b : List Int) (i h : Int) (l : List Int) (hb : b.length ≤ 1048576) (g : CurOk b i) (h0 : 0 < l.length) : ∃ v i' h', spec_l01PickInt.f b i h l = some (v, i', h') ∧ v ∈ l ∧ CurOk b i' := by
  unfold spec_l01PickInt.f
  obtain ⟨r, i1, h1, e1, q1, q2, _, g1⟩ := draw_below b i h (l.length : Int) hb g
  have q3 := q2 (by omega)
  rw [e1, Option.bind_some, if_pos q1, if_pos q3]
  refine ⟨_, _, _, rfl, ?_, g1⟩
  unfold rd
  have h2 : r.toNat < l.length := by omega
  rw [List.getD_eq_getElem?_getD, List.getElem?_eq_getElem h2, Option.getD_some]
  exact List.getElem_mem h2

theorem draw_anyS0 (b : List Int) (i h x : Int) (S : List ByteArray) (hx : 0 ≤ Int.tmod x 3 ∧ Int.tmod x 3 < 3) : ∀ (m : Nat) (C : List IPut), (∀ p ∈ C, p.f1.size ≤ 1048576) → (59 + Int.tmod x 3).toNat - C.length ≤ m → C.length ≤ 61 → ∃ C', Ev (fun k => spec_l03Any.l0 k x b i h S C) (S, C', i, h) ∧ C'.length ≤ 61 ∧ ∀ p ∈ C', p.f1.size ≤ 1048576
  | m, C, hz, hm, hc => by
    have hw : wrap64 (59 + Int.tmod x 3) = 59 + Int.tmod x 3 := w64 (by omega) (by omega)
    by_cases c : (C.length : Int) < 59 + Int.tmod x 3
    · cases m with
      | zero => omega
      | succ m =>
        obtain ⟨C', e, hC⟩ := draw_anyS0 b i h x S hx m (C ++ [(⟨0, zero64⟩ : IPut)]) (fun p hp => by
          rcases List.mem_append.1 hp with h2 | h2
          · exact hz p h2
          · rw [List.mem_singleton] at h2; subst h2; show zero64.size ≤ _; rw [zero64_size]; omega) (by simp; omega) (by simp; omega)
        refine ⟨C', ev_step ?_, hC⟩
        simp only [spec_l03Any.l0]
        rw [hw]
        exact ev_pos c (ev_bind zero_ok (ev_pos (by omega) e))
    · refine ⟨C, ev_step ?_, hc, hz⟩
      simp only [spec_l03Any.l0]
      rw [hw]
      exact ev_neg c (Ev.now _)
theorem draw_anyS (b : List Int) (i h : Int) (hb : b.length ≤ 1048576) (g : CurOk b i) : ∃ S C i' h', Ev (fun k => spec_l03Any.f k b i h) (S, C, i', h') ∧ S.length ≤ 100 ∧ C.length ≤ 100 ∧ CurOk b i' ∧ (∀ s ∈ S, s.size ≤ 1048576) ∧ ∀ p ∈ C, p.f1.size ≤ 1048576 := by
  unfold spec_l03Any.f
  obtain ⟨r, i1, h1, e1, _, _, _, g1⟩ := draw_below b i h 12 hb g
  obtain ⟨x, i2, h2, e2, p1, p2, _, g2⟩ := draw_below b i1 h1 60 hb g1
  have p3 := p2 (by decide)
  obtain ⟨S, C, i3, h3, e3, hd, hl, g3⟩ := draw_l03 b i2 h2 hb g2
  obtain ⟨d1, d2, d3, d4, d5⟩ := (diskOk_iff S C).1 hd
  have hy : ∀ s ∈ S, s.size ≤ 1048576 := fun s hs => by rw [d4 s hs]; omega
  have hz : ∀ p ∈ C, p.f1.size ≤ 1048576 := fun p hp => by rw [(d5 p hp).2.2]; omega
  have e4 := spec_copy S C (by omega) (by omega)
  have t0 : 0 ≤ Int.tmod x 3 ∧ Int.tmod x 3 < 3 := ⟨Int.tmod_nonneg _ p1, Int.tmod_lt_of_pos _ (by decide)⟩
  have hL : ∀ y : Int, Ev (fun k => spec_l01Long.f k (wrap64 (63 + (Int.tmod x 3))) y) (strOfNums (List.replicate (63 + Int.tmod x 3).toNat y)) := fun y => by
    have h := long_ok (63 + Int.tmod x 3).toNat y (by omega)
    rw [w64 (by omega) (by omega)]
    rwa [Int.toNat_of_nonneg (by omega)] at h
  have hLz : ∀ y : Int, (strOfNums (List.replicate (63 + Int.tmod x 3).toNat y)).size ≤ 1048576 := fun y => by rw [strOfNums_size, List.length_replicate]; omega
  by_cases c0 : r = 0
  · refine ⟨_, _, _, _, ev_cbind e1 (ev_cbind e2 (ev_bind e3 (ev_cbind e4 (ev_pos c0 (ev_neg (by show ¬ (S.length : Int) = 0; omega) (ev_bind (hL 97) (ev_pos (Int.tmod_nonneg _ p1) (ev_pos (Int.tmod_lt_of_pos _ (by show (0 : Int) < (S.length : Int); omega)) (Ev.now _))))))))), ?_, ?_, g3, ?_, hz⟩
    · show (S.set _ _).length ≤ 100
      rw [List.length_set]; omega
    · show C.length ≤ 100
      omega
    · intro s hs
      rcases List.mem_or_eq_of_mem_set hs with h2 | rfl
      · exact hy s h2
      · exact hLz 97
  by_cases c1 : r = 1
  · refine ⟨_, _, _, _, ev_cbind e1 (ev_cbind e2 (ev_bind e3 (ev_cbind e4 (ev_neg c0 (ev_pos c1 (ev_bind (hL 98) (ev_pos (by show C.length < _; omega) (Ev.now _)))))))), ?_, ?_, g3, hy, ?_⟩
    · show S.length ≤ 100
      omega
    · show (C ++ [_]).length ≤ 100
      rw [List.length_append, List.length_singleton]; omega
    · intro p hp
      rcases List.mem_append.1 hp with h2 | h2
      · exact hz p h2
      · rw [List.mem_singleton] at h2; subst h2; exact hLz 98
  by_cases c2 : r = 2
  · obtain ⟨C', e5, hC, hC2⟩ := draw_anyS0 b i3 h3 x S t0 61 C hz (by omega) (by omega)
    exact ⟨_, _, _, _, ev_cbind e1 (ev_cbind e2 (ev_bind e3 (ev_cbind e4 (ev_neg c0 (ev_neg c1 (ev_pos c2 e5)))))), by omega, by omega, g3, hy, hC2⟩
  by_cases c3 : r = 3
  · refine ⟨_, _, _, _, ev_cbind e1 (ev_cbind e2 (ev_bind e3 (ev_cbind e4 (ev_neg c0 (ev_neg c1 (ev_neg c2 (ev_pos c3 (ev_pos (by show (0 : Int) ≤ (S.length : Int); omega) (Ev.now _))))))))), ?_, ?_, g3, fun s hs => hy s (List.mem_of_mem_take hs), hz⟩
    · show (S.take _).length ≤ 100
      rw [List.length_take]; omega
    · show C.length ≤ 100
      omega
  · exact ⟨S, C, i3, h3, ev_cbind e1 (ev_cbind e2 (ev_bind e3 (ev_cbind e4 (ev_neg c0 (ev_neg c1 (ev_neg c2 (ev_neg c3 (Ev.now _)))))))), by omega, by omega, g3, hy, hz⟩

theorem draw_place (b : List Int) (i h n : Int) (hb : b.length ≤ 1048576) (g : CurOk b i) (hn : 0 ≤ n ∧ n ≤ 1000) : ∃ v i' h', spec_l01Place.f b i h n = some (v, i', h') ∧ (-9223372036854775808 ≤ v ∧ v < 9223372036854775808) ∧ CurOk b i' := by
  unfold spec_l01Place.f
  obtain ⟨r, i1, h1, e1, g1⟩ := draw_once b i h 15 hb g
  rw [e1, Option.bind_some]
  by_cases c : r = true
  · obtain ⟨v, i2, h2, e2, hm, g2⟩ := draw_pickint b i1 h1 [(-1), n, wrap64 (n + 1), 9223372036854775807, (-9223372036854775808)] hb g1 (by simp)
    rw [if_pos c, e2, Option.bind_some]
    refine ⟨v, i2, h2, rfl, ?_, g2⟩
    rw [w64 (by omega) (by omega)] at hm
    simp only [List.mem_cons, List.not_mem_nil, or_false] at hm
    omega
  · obtain ⟨v, i2, h2, e2, q1, q2, q3, g2⟩ := draw_below b i1 h1 n hb g1
    rw [if_neg c, e2, Option.bind_some]
    refine ⟨v, i2, h2, rfl, ?_, g2⟩
    by_cases c2 : 0 < n
    · have := q2 c2; omega
    · have := q3 (by omega); omega

/-! what is as itself -/
theorem sameTexts0 (l : List ByteArray) (hl : l.length ≤ 1099511627776) : ∀ (m j : Nat), j + m = l.length → Ev (fun k => laws_sameTexts.l0 k l l (j : Int)) true
  | 0, j, e => by
    refine ev_step ?_
    simp only [laws_sameTexts.l0]
    exact ev_neg (by omega) (Ev.now _)
  | m + 1, j, e => by
    refine ev_step ?_
    simp only [laws_sameTexts.l0]
    rw [next64 _ (by omega)]
    exact ev_pos (by omega) (ev_pos (by omega) (ev_pos (by omega) (ev_pos (by first | rfl | trivial) (sameTexts0 l hl m (j + 1) (by omega)))))
theorem sameTexts_ok (l : List ByteArray) (hl : l.length ≤ 1099511627776) : Ev (fun k => laws_sameTexts.f k l l) true := by
  unfold laws_sameTexts.f
  exact ev_pos (by first | rfl | trivial) (sameTexts0 l hl l.length 0 (by omega))

theorem sameDisk0 (S : List ByteArray) (C : List IPut) (hC : C.length ≤ 1099511627776) : ∀ (m j : Nat), j + m = C.length → Ev (fun k => laws_sameDisk.l0 k (j : Int) S C S C) true
  | 0, j, e => by
    refine ev_step ?_
    simp only [laws_sameDisk.l0]
    exact ev_neg (by omega) (Ev.now _)
  | m + 1, j, e => by
    refine ev_step ?_
    simp only [laws_sameDisk.l0]
    rw [next64 _ (by omega)]
    exact ev_pos (by omega) (ev_pos (by omega) (ev_pos (by omega) (ev_neg (by simp) (sameDisk0 S C hC m (j + 1) (by omega)))))
theorem sameDisk_ok (S : List ByteArray) (C : List IPut) (hS : S.length ≤ 1099511627776) (hC : C.length ≤ 1099511627776) : Ev (fun k => laws_sameDisk.f k S C S C) true := by
  unfold laws_sameDisk.f
  refine ev_bind (sameTexts_ok S hS) (ev_pos rfl (ev_step ?_))
  simp only [laws_sameDisk.j0]
  exact ev_neg (by simp) (sameDisk0 S C hC C.length 0 (by omega))

theorem told (b : List Int) (hb : b.length ≤ 1048576) : Ev (fun k => laws_FnDisksTold.f k b) true := by
  obtain ⟨h0, e0⟩ := draw_new b hb
  obtain ⟨S, C, i1, h1, e1, hS, hC, g1, _, _⟩ := draw_anyS b 0 h0 hb (cur0 b)
  have d1 : Ev (fun k => spec_DrawDiskOk.f k b) (S, C) := by
    unfold spec_DrawDiskOk.f
    exact ev_bind e0 (ev_bind e1 (Ev.now _))
  obtain ⟨p, i2, h2, e2, hp, g2⟩ := draw_place b 0 h0 5 hb (cur0 b) (by decide)
  obtain ⟨S2, C2, i3, h3, e3, hS2, hC2, g3, _, _⟩ := draw_anyS b i2 h2 hb g2
  have d2 : Ev (fun k => spec_DrawReadSector.f k b) (S2, C2, p) := by
    unfold spec_DrawReadSector.f
    exact ev_bind e0 (ev_cbind e2 (ev_bind e3 (Ev.now _)))
  obtain ⟨n, i4, h4, e4, hn, g4⟩ := draw_pickint b i2 h2 [0, 1, 2, 3, (-1), 101] hb g2 (by simp)
  obtain ⟨S3, C3, i5, h5, e5, hS3, hC3, g5, hs3, hp3⟩ := draw_anyS b i4 h4 hb g4
  have d3 : Ev (fun k => spec_DrawSectorText.f k b) (S3, C3, p, n) := by
    unfold spec_DrawSectorText.f
    exact ev_bind e0 (ev_cbind e2 (ev_cbind e4 (ev_bind e5 (Ev.now _))))
  have r1 := impl_read S2 C2 p (by omega) (by omega)
  have r2 := spec_read S2 C2 p (by omega) (by omega)
  have t1 := impl_sectorText S3 C3 p n (by omega) (by omega) hp hs3 hp3
  have t2 := spec_sectorText S3 C3 p n (by omega) (by omega) hp hs3 hp3
  have n3 := impl_newM 3
  have n0 := impl_newM 0
  have q3 : newM 3 = (List.replicate 3 zero64, [], true) := by unfold newM; rw [if_pos (by decide)]; rfl
  have q0 : newM 0 = ([], [], false) := by unfold newM; rw [if_neg (by decide)]
  rw [q3] at n3
  rw [q0] at n0
  have o1 := impl_diskOk S C (by omega) (by omega)
  have o2 := spec_diskOk S C (by omega) (by omega)
  have f1 := impl_flush S C (by omega) (by omega)
  have f2 := spec_flush S C (by omega) (by omega)
  have hl := flush_lens S C
  generalize flushM S C = F at f1 f2 hl
  obtain ⟨F1, F2⟩ := F
  have hl1 : F1.length = S.length := hl.1
  have hl2 : F2.length ≤ C.length := hl.2
  have sd := sameDisk_ok F1 F2 (by omega) (by omega)
  unfold laws_FnDisksTold.f
  refine ev_cbind (a := false) (by unfold laws_big.f; rw [decide_eq_false (by omega)]) (ev_neg (by decide) (ev_bind d1 (ev_bind d2 (ev_bind r1 (ev_bind r2 (ev_bind d3 (ev_bind t1 (ev_bind t2 (ev_bind n3 (ev_bind n0 (ev_bind o1 (ev_bind o2 ?_))))))))))))
  exact ev_pos (by simp) (ev_pos (by simp) (ev_pos (by first | rfl | trivial) (ev_pos (by simp) (ev_pos (by first | rfl | trivial) (ev_bind f1 (ev_bind f2 (ev_bind sd (ev_pos rfl (ev_pos (by first | rfl | trivial) (ev_neg (by simp) (ev_now (by simp))))))))))))
theorem holds : laws_FnDisksTold.Pure := by
  intro l0 _ h _
  by_cases c : l0.length ≤ 1048576
  · exact ev_at (told l0 c)
  · refine ⟨0, ?_⟩
    unfold laws_FnDisksTold.f laws_big.f
    rw [Option.bind_some, decide_eq_true (by omega)]
    rfl
end Go.Proofs.Ytlmnbgblmackkaa.QFnDisksTold
namespace Go.Proofs.Ytlmnbgblmackkaa.Pure
theorem FnDisksTold : QFnDisksTold.laws_FnDisksTold.Pure := QFnDisksTold.holds
end Go.Proofs.Ytlmnbgblmackkaa.Pure
