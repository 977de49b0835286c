/- The law FnExactPartsOf answers true at every text. Conditions: none beyond a text's size. -/
import Derived.Test.YtcclceohmkojgaaDoorQFnExactPartsOfx2
import Derived.Test.YtcclceohmkojgaaDoorAid
import Derived.Lib.FieldsLaws
namespace Go.Proofs.YtcclceohmkojgaaDoor.Pure
open Go.RowKit Go.Proofs.YtcclceohmkojgaaDoor Go.Proofs.YtcclceohmkojgaaDoor.QFnExactPartsOf Go.Proofs.YtcclceohmkojgaaDoorW.PrintWords Go.Proofs.YtcclceohmkojgaaDoorW.PrintLast Go.Proofs.YtcclceohmkojgaaDoor.Aid
set_option linter.unusedVariables false
theorem strOfNums_size (x : List Int) : (strOfNums x).size = x.length := by
  show (List.map (fun n : Int => UInt8.ofNat n.toNat) x).toArray.size = _
  simp

/-! a list is as itself -/
theorem eqStringS_l (l : List ByteArray) (hl : l.length ≤ 9223372036854775800) : ∀ (rest pre : List ByteArray), l = pre ++ rest → Ev (fun k => laws_eqStringS.l0 k l l (pre.length : Int)) true := by
  intro rest
  induction rest with
  | nil =>
    intro pre e
    refine ev_step ?_
    simp only [laws_eqStringS.l0]
    exact ev_neg (by rw [e]; simp) (Ev.now _)
  | cons x rest ih =>
    intro pre e
    refine ev_step ?_
    simp only [laws_eqStringS.l0]
    have hlt : (pre.length : Int) < (l.length : Int) := by rw [e]; exact len_mid _ _ _
    have h := ih (pre ++ [x]) (by simp [e])
    rw [List.length_append, List.length_singleton] at h
    rw [next64 _ (by omega)]
    exact ev_pos hlt (ev_pos (by omega) (ev_pos hlt (ev_pos (by first | rfl | trivial) h)))
theorem eqStringS_same (l : List ByteArray) (hl : l.length ≤ 9223372036854775800) : Ev (fun k => laws_eqStringS.f k l l) true := by
  unfold laws_eqStringS.f
  exact ev_pos rfl (eqStringS_l l hl l [] rfl)

/-! marks -/
theorem markText_l : ∀ (n : Nat) (acc : ByteArray), acc.size + n ≤ 4611686018427387904 → ∃ r, Ev (fun k => laws_markText.l0 k (n : Int) acc) r := by
  intro n
  induction n using Nat.strongRecOn with
  | _ n ih =>
    intro acc hb
    by_cases h : n = 0
    · subst h
      refine ⟨(⟨#[109]⟩ : ByteArray) ++ acc, ev_step ?_⟩
      simp only [laws_markText.l0]
      exact ev_neg (by omega) (ev_pos (by omega) (Ev.now _))
    · have e1 : wrap64 (Int.tdiv (n : Int) 10) = ((n / 10 : Nat) : Int) := by
        rw [show Int.tdiv (n : Int) 10 = ((n / 10 : Nat) : Int) from rfl, w64 (by omega) (by omega)]
      obtain ⟨r, hr⟩ := ih (n / 10) (by omega) (strOfNums [(wrap64 (48 + (Int.tmod (n : Int) 10))) % 256] ++ acc) (by rw [ByteArray.size_append, strOfNums_size]; simp; omega)
      refine ⟨r, ev_step ?_⟩
      simp only [laws_markText.l0]
      rw [e1]
      exact ev_pos (by omega) (ev_cbind rfl (ev_pos (by rw [strOfNums_size]; simp; omega) hr))
theorem markText_ok (n : Int) (h : n ≤ 4611686018427387904) : ∃ r, Ev (fun k => laws_markText.f k n) r := by
  unfold laws_markText.f
  by_cases c : n ≤ 0
  · exact ⟨_, ev_pos c (Ev.now _)⟩
  · obtain ⟨r, hr⟩ := markText_l n.toNat (⟨#[]⟩ : ByteArray) (by show 0 + n.toNat ≤ _; omega)
    rw [Int.toNat_of_nonneg (by omega)] at hr
    exact ⟨r, ev_neg c hr⟩
open Classical in
noncomputable def markT (n : Int) : ByteArray := if h : ∃ r, Ev (fun k => laws_markText.f k n) r then Classical.choose h else ByteArray.empty
theorem markT_ev (n : Int) (h : n ≤ 4611686018427387904) : Ev (fun k => laws_markText.f k n) (markT n) := by
  unfold markT
  rw [dif_pos (markText_ok n h)]
  exact Classical.choose_spec (markText_ok n h)
noncomputable def markL (a : Int) : Nat → List ByteArray
  | 0 => []
  | n + 1 => markT a :: markL (a + 1) n
theorem markL_length (a : Int) (n : Nat) : (markL a n).length = n := by
  induction n generalizing a with
  | zero => rfl
  | succ n ih => simp [markL, ih]
theorem markStringS_l : ∀ (rest pre : List ByteArray) (a : Int), 0 ≤ a → pre.length + rest.length ≤ 1099511627776 → a + rest.length ≤ 4611686018427387900 →
    Ev (fun k => laws_markStringS.l0 k (pre ++ rest) a (pre.length : Int)) (a + rest.length, pre ++ markL a rest.length) := by
  intro rest
  induction rest with
  | nil =>
    intro pre a h0 h1 h2
    refine ev_step ?_
    simp only [laws_markStringS.l0]
    exact ev_neg (by simp) (ev_now (by simp [markL]))
  | cons x rest ih =>
    intro pre a h0 h1 h2
    rw [List.length_cons] at h1 h2
    have h := ih (pre ++ [markT a]) (a + 1) (by omega) (by simp; omega) (by omega)
    rw [List.length_append, List.length_singleton] at h
    refine ev_step ?_
    simp only [laws_markStringS.l0]
    rw [next64 _ (by omega), Int.toNat_natCast, w64 (x := a + 1) (by omega) (by omega)]
    refine ev_pos (len_mid _ _ _) (ev_bind (markT_ev a (by omega)) (ev_pos (by omega) ?_))
    rw [set_mid]
    rw [List.append_assoc, List.append_assoc] at h
    refine ev_eq h ?_
    rw [List.length_cons]
    simp only [markL]
    refine Prod.ext (by simp; omega) rfl
theorem heldStringS_l : ∀ (n : Nat) (pre : List ByteArray) (a : Int), 0 ≤ a → pre.length + n ≤ 1099511627776 → a + n ≤ 4611686018427387900 →
    Ev (fun k => laws_heldStringS.l0 k (pre ++ markL a n) a (pre.length : Int)) (a + n) := by
  intro n
  induction n with
  | zero =>
    intro pre a h0 h1 h2
    refine ev_step ?_
    simp only [laws_heldStringS.l0]
    exact ev_neg (by simp [markL]) (ev_now (by simp))
  | succ n ih =>
    intro pre a h0 h1 h2
    have h := ih (pre ++ [markT a]) (a + 1) (by omega) (by simp; omega) (by omega)
    rw [List.length_append, List.length_singleton, List.append_assoc] at h
    refine ev_step ?_
    simp only [laws_heldStringS.l0]
    have hg : rdOf ByteArray.empty (pre ++ markL a (n + 1)) (pre.length : Int) = markT a := by unfold rdOf; simp only [markL]; rw [Int.toNat_natCast, getD_mid]
    rw [next64 _ (by omega), w64 (x := a + 1) (by omega) (by omega), hg]
    refine ev_pos (by simp only [markL]; exact len_mid _ _ _) (ev_pos (by omega) (ev_bind (markT_ev a (by omega)) (ev_pos rfl (ev_eq h (by omega)))))
theorem strings_marked (S : List ByteArray) (hS : S.length ≤ 1099511627776) : ∃ m S', Ev (fun k => laws_markStringS.f k S 1) (m, S') ∧ 0 ≤ m ∧ Ev (fun k => laws_heldStringS.f k S' 1) m := by
  refine ⟨1 + S.length, markL 1 S.length, ?_, by omega, ?_⟩
  · unfold laws_markStringS.f
    exact markStringS_l S [] 1 (by omega) (by simp; omega) (by omega)
  · unfold laws_heldStringS.f
    exact heldStringS_l S.length [] 1 (by omega) (by simp; omega) (by omega)

/-! the parts of a line -/
theorem bt_at (s : ByteArray) (i : Nat) (h : i < s.size) : ∃ b, s.data.toList[i]? = some b ∧ bt s (i : Int) = (b.toNat : Int) := by
  refine ⟨s[i], ?_, ?_⟩
  · rw [List.getElem?_eq_getElem (by rw [Array.length_toList]; exact h)]
    rfl
  · unfold bt
    have e : ((i : Nat) : Int).toNat = i := Int.toNat_natCast i
    rw [dif_pos (by rw [e]; exact h)]
    simp only [e]
def okB (c : UInt8) : Bool := decide (32 ≤ c.toNat ∧ c.toNat ≤ 126)
def txt (l : List UInt8) : ByteArray := ⟨l.toArray⟩
def endM (L : List ByteArray) : List ByteArray × Bool := if (L.length : Int) > 10 then ([], false) else (L, true)
def partsM (s : ByteArray) : List ByteArray × Bool := if (s.size : Int) > 600 then ([], false) else if s.data.toList.all okB = true then endM ((Lib.fields s.data.toList).map txt) else ([], false)
theorem isSp_of (c : UInt8) (h : okB c = true) : Lib.isSp c = decide (c.toNat = 32) := by
  unfold okB at h
  rw [decide_eq_true_eq] at h
  have hc : ∀ n : Fin 256, 32 ≤ n.val ∧ n.val ≤ 126 → Lib.isSp (UInt8.ofNat n.val) = decide (n.val = 32) := by decide +kernel
  have := hc ⟨c.toNat, UInt8.toNat_lt c⟩ h
  rw [UInt8.ofNat_toNat] at this
  exact this
theorem ext_piece (s : ByteArray) (b i : Nat) : s.extract b i = txt ((s.data.toList.drop b).take (i - b)) := by
  apply ByteArray.ext
  apply Array.toList_inj.1
  rw [ByteArray.data_extract]
  show (s.data.extract b i).toList = ((s.data.toList.drop b).take (i - b)).toArray.toList
  rw [Array.toList_extract, List.toList_toArray, List.extract_eq_take_drop]
theorem spec_parts (s : ByteArray) (hs : s.size ≤ 600) : ∀ (d i b : Nat) (out : List ByteArray), i + d = s.size → b ≤ i → out.length ≤ i →
    Ev (fun k => spec_PartsOf.l0 k s out (b : Int) (i : Int)) (if (s.data.toList.drop i).all okB = true then endM (out ++ (Lib.fieldsGo ((s.data.toList.drop b).take (i - b)) (s.data.toList.drop i)).map txt) else ([], false))
  | 0, i, b, out, hi, hb, ho => by
    have hl : s.data.toList.length = s.size := Array.length_toList
    have e0 : s.data.toList.drop i = [] := List.drop_of_length_le (by omega)
    have fin : ∀ (L : List ByteArray) (c : Int), Ev (fun k => spec_PartsOf.l0 k s L c ((i + 1 : Nat) : Int)) (endM L) := by
      intro L c
      refine ev_step ?_
      simp only [spec_PartsOf.l0]
      unfold endM
      refine ev_neg (by omega) (ev_if (fun h => ?_) (fun h => ?_))
      · rw [if_pos h]; exact Ev.now _
      · rw [if_neg h]; exact Ev.now _
    rw [e0, if_pos (by rfl)]
    refine ev_step ?_
    simp only [spec_PartsOf.l0]
    refine ev_pos (by omega) (ev_neg (by omega) (ev_step ?_))
    simp only [spec_PartsOf.j1]
    refine ev_neg (by simp) (ev_neg (by omega) (ev_step ?_))
    simp only [spec_PartsOf.j2]
    rw [next64 i (by omega), Int.toNat_natCast, Int.toNat_natCast, ext_piece]
    refine ev_neg (by simp) (ev_if (fun c => ev_pos (by omega) (ev_pos (by omega) (ev_pos (by omega) (ev_pos (by omega) ?_)))) (fun c => ?_))
    · have hne := Lib.piece_ne (l := s.data.toList) (fs := b) (i := i) (by omega) (by omega)
      have e1 : Lib.fieldsGo ((s.data.toList.drop b).take (i - b)) [] = [(s.data.toList.drop b).take (i - b)] := by
        unfold Lib.fieldsGo
        cases h : (s.data.toList.drop b).take (i - b) with
        | nil => exact absurd h hne
        | cons x y => rfl
      rw [e1]
      exact fin _ _
    · have hbi : b = i := by omega
      subst hbi
      rw [Lib.piece_nil]
      have e1 : Lib.fieldsGo [] [] = [] := rfl
      rw [e1, List.map_nil, List.append_nil]
      exact fin _ _
  | d + 1, i, b, out, hi, hb, ho => by
    have hl : s.data.toList.length = s.size := Array.length_toList
    obtain ⟨c, hc, ec⟩ := bt_at s i (by omega)
    have e0 := Lib.drop_at hc
    refine ev_step ?_
    simp only [spec_PartsOf.l0]
    rw [ec]
    by_cases ho1 : okB c = true
    · have ho2 := ho1
      unfold okB at ho2
      rw [decide_eq_true_eq] at ho2
      have hsp := isSp_of c ho1
      have e2 : (s.data.toList.drop i).all okB = (s.data.toList.drop (i + 1)).all okB := by
        rw [e0, List.all_cons, ho1, Bool.true_and]
      rw [e2]
      refine ev_pos (by omega) (ev_pos (by omega) (ev_pos (by omega) (ev_neg (by omega) (ev_step ?_))))
      simp only [spec_PartsOf.j1]
      rw [ec]
      refine ev_neg (by simp; omega) (ev_pos (by omega) (ev_pos (by omega) (ev_step ?_)))
      simp only [spec_PartsOf.j2]
      rw [next64 i (by omega), Int.toNat_natCast, Int.toNat_natCast, ext_piece]
      by_cases c32 : c.toNat = 32
      · rw [decide_eq_true c32] at hsp
        have ih := spec_parts s hs d (i + 1) (i + 1)
        rw [Lib.piece_nil] at ih
        refine ev_neg (by rw [c32]; decide) (ev_if (fun h => ev_pos (by omega) (ev_pos (by omega) (ev_pos (by omega) (ev_pos (by omega) ?_)))) (fun h => ?_))
        · have hne := Lib.piece_ne (l := s.data.toList) (fs := b) (i := i) (by omega) (by omega)
          rw [e0, Lib.fieldsGo_end _ c _ hsp hne, List.map_cons]
          have h2 := ih (out ++ [txt ((s.data.toList.drop b).take (i - b))]) (by omega) (Nat.le_refl _) (by rw [List.length_append, List.length_singleton]; omega)
          rw [List.append_assoc] at h2
          exact h2
        · have hbi : b = i := by omega
          subst hbi
          rw [Lib.piece_nil, e0, Lib.fieldsGo_sp c _ hsp]
          exact ih out (by omega) (Nat.le_refl _) (by omega)
      · rw [decide_eq_false c32] at hsp
        refine ev_pos (by simp; omega) ?_
        rw [e0, Lib.fieldsGo_more _ c _ hsp, ← Lib.piece_more hb hc]
        exact spec_parts s hs d (i + 1) b out (by omega) (by omega) (by omega)
    · have e2 : (s.data.toList.drop i).all okB = false := by
        rw [e0, List.all_cons]
        cases h : okB c with
        | true => exact absurd h ho1
        | false => rfl
      rw [e2, if_neg (show ¬ (false = true) by simp)]
      unfold okB at ho1
      rw [decide_eq_true_eq] at ho1
      have bad : Ev (fun k => spec_PartsOf.j1 k s out (b : Int) (i : Int) true) (([] : List ByteArray), false) := by
        refine ev_step ?_
        simp only [spec_PartsOf.j1]
        exact ev_pos (by first | rfl | trivial) (Ev.now _)
      refine ev_pos (by omega) (ev_pos (by omega) (ev_pos (by omega) (ev_if (fun h => bad) (fun h => ?_))))
      rw [decide_eq_true (by omega)]
      exact bad
theorem spec_partsOf (s : ByteArray) : Ev (fun k => spec_PartsOf.f k s) (partsM s) := by
  unfold spec_PartsOf.f partsM
  refine ev_cbind rfl (ev_if (fun c => ?_) (fun c => ?_))
  · rw [if_pos c]; exact Ev.now _
  · rw [if_neg c]
    have h := spec_parts s (by omega) s.size 0 0 [] (by omega) (Nat.le_refl _) (by simp)
    exact h
theorem cntF_len : ∀ (ws : Bool) (l : List UInt8), Lib.cntF ws l ≤ l.length
  | _, [] => Nat.le_refl _
  | ws, b :: l => by
    have ih := cntF_len (Lib.isSp b) l
    rw [Lib.cntF_step, List.length_cons]
    split <;> omega
theorem fields_len (l : List UInt8) : (Lib.fields l).length ≤ l.length := by
  rw [Lib.fields_length]
  exact cntF_len _ _
theorem impl_parts (s : ByteArray) (hs : s.size ≤ 600) (full : s.data.toList.all okB = true → Ev (fun k => (Sf.strings_Fields.f s).bind fun t114 => (if (t114.length : Int) > 10 then (some (([] : List ByteArray), false)) else (some (t114, true)))) (endM ((Lib.fields s.data.toList).map txt))) : ∀ (d i : Nat), i + d = s.size → (s.data.toList.take i).all okB = true →
    Ev (fun k => impl_PartsOf.l0 k s (i : Int)) (if s.data.toList.all okB = true then endM ((Lib.fields s.data.toList).map txt) else ([], false))
  | 0, i, hi, ha => by
    have hl : s.data.toList.length = s.size := Array.length_toList
    rw [List.take_of_length_le (by omega)] at ha
    rw [if_pos ha]
    refine ev_step ?_
    simp only [impl_PartsOf.l0]
    exact ev_neg (by omega) (full ha)
  | d + 1, i, hi, ha => by
    have hl : s.data.toList.length = s.size := Array.length_toList
    obtain ⟨c, hc, ec⟩ := bt_at s i (by omega)
    have hb := UInt8.toNat_lt c
    refine ev_step ?_
    simp only [impl_PartsOf.l0]
    rw [ec, w64 (x := (c.toNat : Int)) (by omega) (by omega), next64 i (by omega)]
    refine ev_pos (by omega) (ev_pos (by omega) ?_)
    have hw : impl_within.f (c.toNat : Int) 32 126 = some (okB c) := by
      unfold impl_within.f okB
      by_cases h : (c.toNat : Int) ≥ 32
      · rw [if_pos h]; congr 1; rw [decide_eq_decide]; omega
      · rw [if_neg h]; congr 1; symm; rw [decide_eq_false_iff_not]; omega
    refine ev_cbind hw ?_
    by_cases h : okB c = true
    · refine ev_pos h (impl_parts s hs full d (i + 1) (by omega) ?_)
      have e1 : s.data.toList.take (i + 1) = s.data.toList.take i ++ [c] := by rw [List.take_add_one, hc]; rfl
      rw [e1, List.all_append, ha]
      simp [h]
    · have e2 : s.data.toList.all okB = false := by
        rw [Bool.eq_false_iff]
        intro h2
        exact h (List.all_eq_true.1 h2 c (List.mem_of_getElem? hc))
      rw [e2, if_neg (show ¬ (false = true) by simp)]
      exact ev_neg h (Ev.now _)
theorem impl_partsOf (s : ByteArray) : Ev (fun k => impl_PartsOf.f k s) (partsM s) := by
  unfold impl_PartsOf.f partsM
  refine ev_if (fun c => ?_) (fun c => ?_)
  · rw [if_pos c]; exact Ev.now _
  · rw [if_neg c]
    refine impl_parts s (by omega) (fun ha => ?_) s.size 0 (by omega) (by simp)
    have hl : s.data.toList.length = s.size := Array.length_toList
    have h1 := fields_len s.data.toList
    have hf : Sf.strings_Fields.f s = some ((Lib.fields s.data.toList).map txt) := by
      unfold Sf.strings_Fields.f
      refine if_pos ⟨⟨by omega, fun b hb => ?_⟩, by omega⟩
      have := List.all_eq_true.1 ha b hb
      unfold okB at this
      rw [decide_eq_true_eq] at this
      omega
    refine ev_cbind hf ?_
    unfold endM
    refine ev_if (fun h => ?_) (fun h => ?_)
    · rw [if_pos h]; exact Ev.now _
    · rw [if_neg h]; exact Ev.now _
theorem partsM_len (s : ByteArray) : (partsM s).1.length ≤ 10 := by
  unfold partsM endM
  split
  · exact Nat.zero_le _
  · split
    · split
      · exact Nat.zero_le _
      · show ((Lib.fields s.data.toList).map txt).length ≤ 10
        omega
    · exact Nat.zero_le _

theorem FnExactPartsOf (a0 : ByteArray) : ∃ k, laws_FnExactPartsOf.f k a0 = some true := by
  refine ev_at ?_
  unfold laws_FnExactPartsOf.f
  have hl := partsM_len a0
  have b1 := spec_partsOf a0
  have b2 := impl_partsOf a0
  generalize partsM a0 = r at hl b1 b2
  obtain ⟨r1, r2⟩ := r
  have hl : r1.length ≤ 10 := hl
  have c3 := eqStringS_same r1 (by omega)
  obtain ⟨m2, S2, e2, p2, f2⟩ := strings_marked r1 (by omega)
  refine ev_if (fun _ => Ev.now _) (fun _ => ev_bind b1 (ev_bind b2 (ev_bind c3 (ev_pos rfl (ev_step ?_)))))
  simp only [laws_FnExactPartsOf.j0]
  refine ev_neg (by simp) (ev_bind e2 (ev_bind f2 (ev_neg (by omega) (ev_pos rfl (ev_bind b2 (ev_bind c3 (ev_pos rfl (ev_step ?_))))))))
  simp only [laws_FnExactPartsOf.j1]
  exact ev_neg (by simp) (ev_bind f2 (ev_neg (by omega) (ev_pos rfl (Ev.now _))))
end Go.Proofs.YtcclceohmkojgaaDoor.Pure
