/- The law FnExactVersionsOk answers true at every list of versions. Conditions: lengths and sizes as the row gives them. -/
import Derived.Test.YtdbmagdidkdeoaaQFnExactVersionsOkx4
import Derived.Test.YtdbmagdidkdeoaaAid
namespace Go.Proofs.Ytdbmagdidkdeoaa.Pure
open Go.RowKit Go.Proofs.Ytdbmagdidkdeoaa Go.Proofs.Ytdbmagdidkdeoaa.QFnExactVersionsOk Go.Proofs.YtdbmagdidkdeoaaW.PrintWords Go.Proofs.YtdbmagdidkdeoaaW.PrintLast Go.Proofs.Ytdbmagdidkdeoaa.Aid
set_option linter.unusedVariables false
/-! lists of Version: sizes, copies, a list is as itself -/
abbrev IVersion := S57
abbrev LVersion := S56
theorem szVersion_one (x : LVersion) (left : Int) (h0 : 0 ≤ left) (h1 : left ≤ 1048576) (ha : x.f0.size ≤ 9223372036854775807) (hb : x.f1.size ≤ 9223372036854775807) :
    ∃ t, laws_szVersion.f x.f0 x.f1 x.f2 x.f3 left = some t ∧ (t < 0 ∨ (0 ≤ t ∧ (x.f0.size : Int) + x.f1.size + t = left)) := by
  unfold laws_szVersion.f
  rw [w64 (x := left - (x.f0.size : Int)) (by omega) (by omega)]
  by_cases c1 : left - (x.f0.size : Int) < 0
  · rw [if_pos c1]; exact ⟨_, rfl, .inl (by omega)⟩
  · rw [if_neg c1, w64 (x := left - (x.f0.size : Int) - (x.f1.size : Int)) (by omega) (by omega)]
    by_cases c2 : left - (x.f0.size : Int) - (x.f1.size : Int) < 0
    · rw [if_pos c2]; exact ⟨_, rfl, .inl (by omega)⟩
    · rw [if_neg c2]; exact ⟨_, rfl, .inr ⟨by omega, by omega⟩⟩
theorem szVersionS_l (l : List LVersion) (hl : l.length ≤ 9223372036854775807) (hs : ∀ x ∈ l, x.f0.size ≤ 9223372036854775807 ∧ x.f1.size ≤ 9223372036854775807) : ∀ (rest pre : List LVersion) (left : Int), l = pre ++ rest → 0 ≤ left → left ≤ 1048576 →
    ∃ t, Ev (fun k => laws_szVersionS.l0 k l left (pre.length : Int)) t ∧ (t < 0 ∨ (0 ≤ t ∧ t ≤ left ∧ ∀ x ∈ rest, x.f0.size ≤ 1048576 ∧ x.f1.size ≤ 1048576)) := by
  intro rest
  induction rest with
  | nil =>
    intro pre left e h0 h1
    refine ⟨left, ev_step ?_, .inr ⟨h0, Int.le_refl _, by simp⟩⟩
    simp only [laws_szVersionS.l0]
    exact ev_neg (by rw [e]; simp) (Ev.now _)
  | cons x rest ih =>
    intro pre left e h0 h1
    have hx := hs x (by rw [e]; simp)
    have hg : rd_T56 l (pre.length : Int) = x := by unfold rd_T56; rw [Int.toNat_natCast, e, getD_mid]
    have hlt : (pre.length : Int) < (l.length : Int) := by rw [e]; exact len_mid _ _ _
    obtain ⟨u, hu, hc⟩ := szVersion_one x left h0 h1 hx.1 hx.2
    rcases hc with hc | ⟨c1, c2⟩
    · refine ⟨-1, ev_step ?_, .inl (by omega)⟩
      simp only [laws_szVersionS.l0]
      rw [hg]
      exact ev_pos hlt (ev_pos (by omega) (ev_cbind hu (ev_pos hc (Ev.now _))))
    · obtain ⟨t, ht, hq⟩ := ih (pre ++ [x]) u (by simp [e]) c1 (by omega)
      refine ⟨t, ev_step ?_, ?_⟩
      · simp only [laws_szVersionS.l0]
        rw [hg, next64 _ (by have := hl; omega)]
        rw [List.length_append, List.length_singleton] at ht
        exact ev_pos hlt (ev_pos (by omega) (ev_cbind hu (ev_neg (by omega) ht)))
      · rcases hq with hq | ⟨q1, q2, q3⟩
        · exact .inl hq
        · refine .inr ⟨q1, by omega, ?_⟩
          intro s hs2
          rcases List.mem_cons.1 hs2 with rfl | hs2
          · exact ⟨by omega, by omega⟩
          · exact q3 s hs2
theorem szVersionS_ok (l : List LVersion) (left : Int) (hl : l.length ≤ 9223372036854775807) (hs : ∀ x ∈ l, x.f0.size ≤ 9223372036854775807 ∧ x.f1.size ≤ 9223372036854775807) (h0 : 0 ≤ left) (h1 : left ≤ 1048576) :
    ∃ t, Ev (fun k => laws_szVersionS.f k l left) t ∧ (t < 0 ∨ (0 ≤ t ∧ t ≤ left ∧ l.length ≤ 1048576 ∧ ∀ x ∈ l, x.f0.size ≤ 1048576 ∧ x.f1.size ≤ 1048576)) := by
  unfold laws_szVersionS.f
  have hw : wrap64 (left - (l.length : Int)) = left - (l.length : Int) := w64 (by omega) (by omega)
  rw [hw]
  by_cases c : left - (l.length : Int) < 0
  · exact ⟨-1, ev_pos c (Ev.now _), .inl (by omega)⟩
  · obtain ⟨t, ht, hq⟩ := szVersionS_l l hl hs l [] (left - (l.length : Int)) rfl (by omega) (by omega)
    refine ⟨t, ev_neg c ht, ?_⟩
    rcases hq with hq | ⟨q1, q2, q3⟩
    · exact .inl hq
    · exact .inr ⟨q1, by omega, by omega, q3⟩
def toVersionM (x : LVersion) : IVersion := ⟨x.f0, x.f1, x.f2, x.f3⟩
theorem toVersionS_l (l : List LVersion) (hl : l.length ≤ 1048576) : ∀ (rest pre : List LVersion), l = pre ++ rest → Ev (fun k => laws_toVersionS.l0 k l (pre.map toVersionM ++ List.replicate rest.length z57) (pre.length : Int)) (l.map toVersionM) := by
  intro rest
  induction rest with
  | nil =>
    intro pre e
    refine ev_step ?_
    simp only [laws_toVersionS.l0]
    exact ev_neg (by rw [e]; simp) (ev_now (by rw [e]; simp))
  | cons x rest ih =>
    intro pre e
    refine ev_step ?_
    simp only [laws_toVersionS.l0]
    have hg : rd_T56 l (pre.length : Int) = x := by unfold rd_T56; rw [Int.toNat_natCast, e, getD_mid]
    have hlt : (pre.length : Int) < (l.length : Int) := by rw [e]; exact len_mid _ _ _
    have h := ih (pre ++ [x]) (by simp [e])
    rw [List.length_append, List.length_singleton] at h
    have hm : (pre.map toVersionM).length = pre.length := by simp
    rw [hg, next64 _ (by omega), Int.toNat_natCast, List.length_cons, List.replicate_succ]
    refine ev_pos hlt (ev_pos (by omega) (ev_cbind rfl (ev_pos (by simp; omega) ?_)))
    rw [← hm, set_mid, hm]
    rw [List.map_append, List.append_assoc] at h
    exact h
theorem toVersionS_ok (l : List LVersion) (hl : l.length ≤ 1048576) : Ev (fun k => laws_toVersionS.f k l) (l.map toVersionM) := by
  unfold laws_toVersionS.f
  rw [Int.toNat_natCast]
  exact ev_pos (by omega) (ev_pos (by omega) (toVersionS_l l hl l [] rfl))
theorem eqVersion_same (x : IVersion) : laws_eqVersion.f x.f0 x.f1 x.f2 x.f3 x.f0 x.f1 x.f2 x.f3 = some true := by unfold laws_eqVersion.f; simp
theorem eqVersionS_l (l : List IVersion) (hl : l.length ≤ 9223372036854775800) : ∀ (rest pre : List IVersion), l = pre ++ rest → Ev (fun k => laws_eqVersionS.l0 k l l (pre.length : Int)) true := by
  intro rest
  induction rest with
  | nil =>
    intro pre e
    refine ev_step ?_
    simp only [laws_eqVersionS.l0]
    exact ev_neg (by rw [e]; simp) (Ev.now _)
  | cons x rest ih =>
    intro pre e
    refine ev_step ?_
    simp only [laws_eqVersionS.l0]
    have hlt : (pre.length : Int) < (l.length : Int) := by rw [e]; exact len_mid _ _ _
    have h := ih (pre ++ [x]) (by simp [e])
    rw [List.length_append, List.length_singleton] at h
    rw [next64 _ (by omega)]
    exact ev_pos hlt (ev_pos (by omega) (ev_pos hlt (ev_cbind (eqVersion_same _) (ev_pos rfl h))))
theorem eqVersionS_same (l : List IVersion) (hl : l.length ≤ 9223372036854775800) : Ev (fun k => laws_eqVersionS.f k l l) true := by
  unfold laws_eqVersionS.f
  exact ev_pos rfl (eqVersionS_l l hl l [] rfl)

theorem within_val (a b c : Int) : impl_within.f a b c = some (decide (b ≤ a ∧ a ≤ c)) := by
  unfold impl_within.f
  by_cases h : a ≥ b
  · rw [if_pos h]; congr 1; simp; intro; exact h
  · rw [if_neg h]; congr 1; simp; intro h2; omega
theorem in_val (a b c : Int) : spec_l01In.f a b c = some (decide (b ≤ a ∧ a ≤ c)) := by
  unfold spec_l01In.f
  by_cases h : a ≥ b
  · rw [if_pos h]; congr 1; simp; intro; exact h
  · rw [if_neg h]; congr 1; simp; intro h2; omega

/-- Both answers on keys, from a place on. -/
theorem keyOk_l (s : ByteArray) (hs : s.size ≤ 140737488351232) : ∀ (d i : Nat), i + d = s.size → ∃ r, Ev (fun k => spec_KeyOk.l0 k s i) r ∧ Ev (fun k => impl_KeyOk.l0 k s i) r := by
  intro d
  induction d with
  | zero =>
    intro i hi
    obtain ⟨v, hv⟩ : ∃ v, impl_within.f (s.size : Int) 1 3 = some v := by unfold impl_within.f; split <;> exact ⟨_, rfl⟩
    have hv2 : spec_l01In.f (s.size : Int) 1 3 = some v := hv
    refine ⟨v, ev_step ?_, ev_step ?_⟩
    · simp only [spec_KeyOk.l0]
      exact ev_neg (by omega) (ev_cbind hv2 (Ev.now _))
    · simp only [impl_KeyOk.l0]
      exact ev_neg (by omega) (ev_cbind hv (Ev.now _))
  | succ d ih =>
    intro i hi
    by_cases h1 : bt s i < 97
    · refine ⟨false, ev_step ?_, ev_step ?_⟩
      · simp only [spec_KeyOk.l0]
        exact ev_pos (by omega) (ev_pos (by omega) (ev_pos h1 (Ev.now _)))
      · simp only [impl_KeyOk.l0]
        exact ev_pos (by omega) (ev_pos (by omega) (ev_pos h1 (Ev.now _)))
    · by_cases h2 : bt s i > 122
      · refine ⟨false, ev_step ?_, ev_step ?_⟩
        · simp only [spec_KeyOk.l0]
          exact ev_pos (by omega) (ev_pos (by omega) (ev_neg h1 (ev_pos h2 (Ev.now _))))
        · simp only [impl_KeyOk.l0]
          exact ev_pos (by omega) (ev_pos (by omega) (ev_neg h1 (ev_pos h2 (Ev.now _))))
      · obtain ⟨r, e1, e2⟩ := ih (i + 1) (by omega)
        have e : wrap64 ((i : Int) + 1) = ((i + 1 : Nat) : Int) := by rw [w64 (by omega) (by omega)]; omega
        refine ⟨r, ev_step ?_, ev_step ?_⟩
        · simp only [spec_KeyOk.l0]
          refine ev_pos (by omega) (ev_pos (by omega) (ev_neg h1 (ev_neg h2 ?_)))
          rw [e]; exact e1
        · simp only [impl_KeyOk.l0]
          refine ev_pos (by omega) (ev_pos (by omega) (ev_neg h1 (ev_neg h2 ?_)))
          rw [e]; exact e2
theorem keyOk_both (s : ByteArray) (hs : s.size ≤ 140737488351232) : ∃ r, Ev (fun k => spec_KeyOk.f k s) r ∧ Ev (fun k => impl_KeyOk.f k s) r := keyOk_l s hs s.size 0 (by omega)

/-! versions are right -/
theorem less_asym (a b : List UInt8) (h : Op.bytesLess a b = true) : Op.bytesLess b a = false := by
  have t := StrCmp.less_total a b
  rw [h, Bool.true_or] at t
  cases hb : Op.bytesLess b a with
  | false => rfl
  | true => rw [hb] at t; cases t
theorem less_irr (a : List UInt8) : Op.bytesLess a a = false := by
  cases h : Op.bytesLess a a with
  | false => rfl
  | true => rw [less_asym a a h] at h; cases h
theorem less_eq (a b : List UInt8) (h1 : Op.bytesLess a b = false) (h2 : Op.bytesLess b a = false) : a = b := by
  have t := StrCmp.less_total a b
  rw [h1, h2, Bool.false_or] at t
  exact eq_of_beq t
def cmpS (a b : ByteArray) : Int := if Op.bytesLess a.toList b.toList = true then -1 else if Op.bytesLess b.toList a.toList = true then 1 else 0
theorem cmpS_val (a b : ByteArray) : cmp_Compare_string.f a b = some (cmpS a b) := by
  unfold cmp_Compare_string.f cmp_isNaN_string.f cmpS
  rw [Option.bind_some, Option.bind_some, bne_self_eq_false, bne_self_eq_false, if_neg (by decide), if_neg (by decide)]
  split
  · rfl
  · split <;> rfl
def cmpI (a b : Int) : Int := if a < b then -1 else if a > b then 1 else 0
theorem cmpI_val (a b : Int) : cmp_Compare_int.f a b = some (cmpI a b) := by
  unfold cmp_Compare_int.f cmp_isNaN_int.f cmpI
  rw [Option.bind_some, Option.bind_some, bne_self_eq_false, bne_self_eq_false, if_neg (by decide), if_neg (by decide)]
  split
  · rfl
  · split <;> rfl
def badOrd (y x : IVersion) : Bool := if Op.bytesLess x.f0.toList y.f0.toList = true then true else if y.f0.toList = x.f0.toList then decide (y.f3 ≥ x.f3) else false
theorem compare_val (y x : IVersion) : ∃ t, impl_compareVersion.f y.f0 y.f1 y.f2 y.f3 x.f0 x.f1 x.f2 x.f3 = some t ∧ (t ≥ 0 ↔ badOrd y x = true) := by
  unfold impl_compareVersion.f badOrd
  rw [cmpS_val, Option.bind_some]
  unfold cmpS
  cases h1 : Op.bytesLess y.f0.toList x.f0.toList with
  | true =>
    have h2 := less_asym _ _ h1
    have h3 : ¬ y.f0.toList = x.f0.toList := fun e => by rw [e, less_irr] at h1; cases h1
    refine ⟨-1, rfl, ?_⟩
    rw [h2, if_neg (by decide), if_neg h3]
    decide
  | false =>
    cases h2 : Op.bytesLess x.f0.toList y.f0.toList with
    | true =>
      refine ⟨1, rfl, ?_⟩
      rw [if_pos rfl]
      decide
    | false =>
      have h3 := less_eq _ _ h1 h2
      refine ⟨cmpI y.f3 x.f3, ?_, ?_⟩
      · show (if (0 : Int) = 0 then _ else _) = _
        rw [if_pos rfl, cmpI_val]
        rfl
      · rw [if_neg (by decide), if_pos h3, decide_eq_true_eq]
        unfold cmpI
        split
        · omega
        · split <;> omega
theorem versionsOk_l (l : List IVersion) (hl : l.length ≤ 1048576) (hz : ∀ x ∈ l, x.f0.size ≤ 140737488351232) : ∀ (rest pre : List IVersion), l = pre ++ rest →
    ∃ r, Ev (fun k => spec_VersionsOk.l0 k l (pre.length : Int)) r ∧ Ev (fun k => impl_VersionsOk.l0 k l l (l.length : Int) (pre.length : Int)) r := by
  intro rest
  induction rest with
  | nil =>
    intro pre e
    have hn : ¬ (pre.length : Int) < (l.length : Int) := by rw [e]; simp
    refine ⟨decide ((l.length : Int) ≤ 120), ev_step ?_, ev_step ?_⟩
    · simp only [spec_VersionsOk.l0]
      exact ev_neg hn (Ev.now _)
    · simp only [impl_VersionsOk.l0]
      exact ev_neg hn (Ev.now _)
  | cons x rest ih =>
    intro pre e
    have hg : rd_T57 l (pre.length : Int) = x := by unfold rd_T57; rw [Int.toNat_natCast, e, getD_mid]
    have hlt : (pre.length : Int) < (l.length : Int) := by rw [e]; exact len_mid _ _ _
    obtain ⟨r, i1, i2⟩ := ih (pre ++ [x]) (by simp [e])
    rw [List.length_append, List.length_singleton] at i1 i2
    obtain ⟨v, w1, w2⟩ := keyOk_both x.f0 (hz x (by rw [e]; simp))
    have hn : wrap64 ((pre.length : Int) + 1) = ((pre.length + 1 : Nat) : Int) := next64 _ (by omega)
    have hw : wrap64 ((pre.length : Int) - 1) = (pre.length : Int) - 1 := w64 (by omega) (by omega)
    obtain ⟨R, s1, s2⟩ : ∃ R, Ev (fun k => spec_VersionsOk.j1 k l (pre.length : Int) (!decide (1 ≤ x.f3 ∧ x.f3 ≤ 9999)) x.f0 x.f1 x.f2 x.f3) R ∧
        Ev (fun k => if decide (1 ≤ x.f3 ∧ x.f3 ≤ 9999) = true then (if (pre.length : Int) > 0 then (if 0 ≤ ((pre.length : Int) - 1) then (if ((pre.length : Int) - 1) < (l.length : Int) then ((impl_compareVersion.f (rd_T57 l ((pre.length : Int) - 1)).f0 (rd_T57 l ((pre.length : Int) - 1)).f1 (rd_T57 l ((pre.length : Int) - 1)).f2 (rd_T57 l ((pre.length : Int) - 1)).f3 x.f0 x.f1 x.f2 x.f3).bind fun t => (if t ≥ 0 then (some false) else (impl_VersionsOk.l0 k l l (l.length : Int) ((pre.length + 1 : Nat) : Int)))) else (none)) else (none)) else (impl_VersionsOk.l0 k l l (l.length : Int) ((pre.length + 1 : Nat) : Int))) else (some false)) R := by
      by_cases b : 1 ≤ x.f3 ∧ x.f3 ≤ 9999
      · rw [decide_eq_true b]
        by_cases c : (pre.length : Int) > 0
        · generalize hy : rd_T57 l ((pre.length : Int) - 1) = y
          obtain ⟨t, c1, c2⟩ := compare_val y x
          unfold badOrd at c2
          have spec_go : ∀ R, Ev (fun k => if Op.bytesLess x.f0.toList y.f0.toList = true then some false else if y.f0.toList = x.f0.toList then (if y.f3 ≥ x.f3 then some false else spec_VersionsOk.l0 k l ((pre.length + 1 : Nat) : Int)) else spec_VersionsOk.l0 k l ((pre.length + 1 : Nat) : Int)) R → Ev (fun k => spec_VersionsOk.j1 k l (pre.length : Int) (!true) x.f0 x.f1 x.f2 x.f3) R := fun R h => by
            refine ev_step ?_
            simp only [spec_VersionsOk.j1]
            rw [hw, hn, hy]
            exact ev_neg (by decide) (ev_pos c (ev_pos (by omega) (ev_pos (by omega) h)))
          have impl_go : ∀ R, Ev (fun k => if t ≥ 0 then (some false) else (impl_VersionsOk.l0 k l l (l.length : Int) ((pre.length + 1 : Nat) : Int))) R → Ev (fun k => if true = true then (if (pre.length : Int) > 0 then (if 0 ≤ ((pre.length : Int) - 1) then (if ((pre.length : Int) - 1) < (l.length : Int) then ((impl_compareVersion.f y.f0 y.f1 y.f2 y.f3 x.f0 x.f1 x.f2 x.f3).bind fun t => (if t ≥ 0 then (some false) else (impl_VersionsOk.l0 k l l (l.length : Int) ((pre.length + 1 : Nat) : Int)))) else (none)) else (none)) else (impl_VersionsOk.l0 k l l (l.length : Int) ((pre.length + 1 : Nat) : Int))) else (some false)) R := fun R h => ev_pos rfl (ev_pos c (ev_pos (by omega) (ev_pos (by omega) (ev_cbind c1 h))))
          by_cases d1 : Op.bytesLess x.f0.toList y.f0.toList = true
          · rw [if_pos d1] at c2
            exact ⟨false, spec_go _ (ev_pos d1 (Ev.now _)), impl_go _ (ev_pos (c2.2 rfl) (Ev.now _))⟩
          · rw [if_neg d1] at c2
            by_cases d2 : y.f0.toList = x.f0.toList
            · rw [if_pos d2, decide_eq_true_eq] at c2
              by_cases d3 : y.f3 ≥ x.f3
              · exact ⟨false, spec_go _ (ev_neg d1 (ev_pos d2 (ev_pos d3 (Ev.now _)))), impl_go _ (ev_pos (c2.2 d3) (Ev.now _))⟩
              · exact ⟨r, spec_go _ (ev_neg d1 (ev_pos d2 (ev_neg d3 i1))), impl_go _ (ev_neg (fun h => d3 (c2.1 h)) i2)⟩
            · rw [if_neg d2] at c2
              exact ⟨r, spec_go _ (ev_neg d1 (ev_neg d2 i1)), impl_go _ (ev_neg (fun h => by cases c2.1 h) i2)⟩
        · refine ⟨r, ev_step ?_, ev_pos rfl (ev_neg c i2)⟩
          simp only [spec_VersionsOk.j1]
          rw [hn]
          exact ev_neg (by decide) (ev_neg c i1)
      · rw [decide_eq_false b]
        refine ⟨false, ev_step ?_, ev_neg (by decide) (Ev.now _)⟩
        simp only [spec_VersionsOk.j1]
        exact ev_pos (by first | rfl | trivial) (Ev.now _)
    have bad : Ev (fun k => spec_VersionsOk.j1 k l (pre.length : Int) true x.f0 x.f1 x.f2 x.f3) false := by
      refine ev_step ?_
      simp only [spec_VersionsOk.j1]
      exact ev_pos (by first | rfl | trivial) (Ev.now _)
    have out : (∃ R, Ev (fun k => (spec_KeyOk.f k x.f0).bind fun t107 => (if t107 = true then (if ((x.f1).size : Int) > 12 then (spec_VersionsOk.j1 k l (pre.length : Int) true x.f0 x.f1 x.f2 x.f3) else (if x.f2 = true then (if (x.f1).toList = ([] : List UInt8) then ((spec_l01In.f (x.f3) 1 9999).bind fun t108 => (spec_VersionsOk.j1 k l (pre.length : Int) (!t108) x.f0 x.f1 x.f2 x.f3)) else (spec_VersionsOk.j1 k l (pre.length : Int) true x.f0 x.f1 x.f2 x.f3)) else ((spec_l01In.f (x.f3) 1 9999).bind fun t109 => (spec_VersionsOk.j1 k l (pre.length : Int) (!t109) x.f0 x.f1 x.f2 x.f3)))) else (spec_VersionsOk.j1 k l (pre.length : Int) true x.f0 x.f1 x.f2 x.f3))) R ∧ Ev (fun k => impl_VersionsOk.l0 k l l (l.length : Int) (pre.length : Int)) R) := by
      cases v with
      | false =>
        refine ⟨false, ev_bind w1 (ev_neg (by simp) bad), ev_step ?_⟩
        simp only [impl_VersionsOk.l0]
        rw [hg]
        exact ev_pos hlt (ev_pos (by omega) (ev_pos hlt (ev_bind w2 (ev_neg (by simp) (Ev.now _)))))
      | true =>
        by_cases c1 : ((x.f1).size : Int) > 12
        · refine ⟨false, ev_bind w1 (ev_pos rfl (ev_pos c1 bad)), ev_step ?_⟩
          simp only [impl_VersionsOk.l0]
          rw [hg]
          exact ev_pos hlt (ev_pos (by omega) (ev_pos hlt (ev_bind w2 (ev_pos rfl (ev_pos c1 (Ev.now _))))))
        · by_cases c2 : x.f2 = true
          · by_cases c3 : (x.f1).toList = ([] : List UInt8)
            · refine ⟨R, ev_bind w1 (ev_pos rfl (ev_neg c1 (ev_pos c2 (ev_pos c3 (ev_cbind (in_val _ _ _) s1))))), ev_step ?_⟩
              simp only [impl_VersionsOk.l0]
              rw [hg, hw, hn]
              exact ev_pos hlt (ev_pos (by omega) (ev_pos hlt (ev_bind w2 (ev_pos rfl (ev_neg c1 (ev_pos c2 (ev_pos c3 (ev_cbind (within_val _ _ _) s2))))))))
            · refine ⟨false, ev_bind w1 (ev_pos rfl (ev_neg c1 (ev_pos c2 (ev_neg c3 bad)))), ev_step ?_⟩
              simp only [impl_VersionsOk.l0]
              rw [hg]
              exact ev_pos hlt (ev_pos (by omega) (ev_pos hlt (ev_bind w2 (ev_pos rfl (ev_neg c1 (ev_pos c2 (ev_neg c3 (Ev.now _))))))))
          · refine ⟨R, ev_bind w1 (ev_pos rfl (ev_neg c1 (ev_neg c2 (ev_cbind (in_val _ _ _) s1)))), ev_step ?_⟩
            simp only [impl_VersionsOk.l0]
            rw [hg, hw, hn]
            exact ev_pos hlt (ev_pos (by omega) (ev_pos hlt (ev_bind w2 (ev_pos rfl (ev_neg c1 (ev_neg c2 (ev_cbind (within_val _ _ _) s2)))))))
    obtain ⟨R2, o1, o2⟩ := out
    refine ⟨R2, ev_step ?_, o2⟩
    simp only [spec_VersionsOk.l0]
    rw [hg]
    exact ev_pos hlt (ev_pos (by omega) o1)
theorem versionsOk_both (l : List IVersion) (hl : l.length ≤ 1048576) (hz : ∀ x ∈ l, x.f0.size ≤ 140737488351232) : ∃ r, Ev (fun k => spec_VersionsOk.f k l) r ∧ Ev (fun k => impl_VersionsOk.f k l) r := versionsOk_l l hl hz l [] rfl

theorem FnExactVersionsOk (l0 : List LVersion) : l0.length ≤ 9223372036854775807 → (∀ x ∈ l0, x.f0.size ≤ 9223372036854775807 ∧ x.f1.size ≤ 9223372036854775807 ∧ (Lit.int .i64 x.f3).wf = true) → ∃ k, laws_FnExactVersionsOk.f k l0 = some true := by
  intro h0 g0
  refine ev_at ?_
  unfold laws_FnExactVersionsOk.f
  obtain ⟨t, ht, hq⟩ := szVersionS_ok l0 1048576 h0 (fun x hx => ⟨(g0 x hx).1, (g0 x hx).2.1⟩) (by omega) (by omega)
  refine ev_bind ht ?_
  rcases hq with hq | ⟨q1, q2, q3, q4⟩
  · exact ev_pos hq (Ev.now _)
  · have d0 := toVersionS_ok l0 q3
    have m0 : (l0.map toVersionM).length = l0.length := by simp
    have hz : ∀ x ∈ l0.map toVersionM, x.f0.size ≤ 140737488351232 := by
      intro x hx
      obtain ⟨y, hy, rfl⟩ := List.mem_map.1 hx
      have := (q4 y hy).1
      show y.f0.size ≤ _
      omega
    generalize l0.map toVersionM = a at d0 m0 hz
    obtain ⟨r, b1, b2⟩ := versionsOk_both a (by omega) hz
    have e0 := eqVersionS_same a (by omega)
    exact ev_neg (by omega) (ev_bind d0 (ev_bind b1 (ev_bind d0 (ev_bind b2 (ev_neg (by simp) (ev_bind d0 (ev_bind e0 (ev_pos rfl (Ev.now _)))))))))

end Go.Proofs.Ytdbmagdidkdeoaa.Pure
