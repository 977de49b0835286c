/- The law FnVersionsTold answers true at every draw. Conditions: the draw's length as the row gives it. -/
import Derived.Test.YtjadloppdbhpiaaQFnVersionsToldx8
import Derived.Test.YtjadloppdbhpiaaAid
import Derived.Test.YtjadloppdbhpiaaStrCmp
namespace Go.Proofs.Ytjadloppdbhpiaa.QFnVersionsTold
open Go.RowKit Go.Proofs.Ytjadloppdbhpiaa Go.Proofs.YtjadloppdbhpiaaW.PrintWords Go.Proofs.YtjadloppdbhpiaaW.PrintLast Go.Proofs.Ytjadloppdbhpiaa.Aid
set_option linter.unusedVariables false
abbrev IWrite := S42
abbrev IVersion := S57
theorem toList_inj' {a b : ByteArray} (h : a.toList = b.toList) : a = b := by
  rw [ByteArray.toList_eq, ByteArray.toList_eq] at h
  exact ByteArray.ext (Array.toList_inj.1 h)

/-! the drawing's cursor -/
theorem and255 (n : Int) : 0 ≤ Go.bits .and .i64 n 255 ∧ Go.bits .and .i64 n 255 ≤ 255 := by
  have h255 : (BitVec.ofInt 64 255).toNat = 2 ^ 8 - 1 := by decide
  have key : (BitVec.ofInt 64 n &&& BitVec.ofInt 64 255).toNat = (n % ((2 ^ 64 : Nat) : Int)).toNat % 2 ^ 8 := by
    rw [BitVec.toNat_and, BitVec.toNat_ofInt, h255, Nat.and_two_pow_sub_one_eq_mod]
  have e : Go.bits .and .i64 n 255 = n % 256 := by
    show IntKind.i64.wrap ((BitVec.ofInt 64 n &&& BitVec.ofInt 64 255).toNat : Nat) = n % 256
    rw [key, IntKind.wrap_i64]
    omega
  rw [e]
  omega
def CurOk (b : List Int) (i : Int) : Prop := 0 ≤ i ∧ i ≤ (b.length : Int)
theorem draw_byte (b : List Int) (i h : Int) (hb : b.length ≤ 1048576) (hi : CurOk b i) : ∃ r i' h', spec_l01Byte.f b i h = some (r, i', h') ∧ (0 ≤ r ∧ r ≤ 255) ∧ CurOk b i' := by
  unfold spec_l01Byte.f
  by_cases c : i < (b.length : Int)
  · rw [if_pos c, if_pos hi.1]
    refine ⟨_, _, _, rfl, and255 _, ?_⟩
    unfold CurOk at hi ⊢
    rw [w64 (by omega) (by omega)]
    omega
  · rw [if_neg c]
    exact ⟨_, _, _, rfl, and255 _, hi⟩
theorem draw_below (b : List Int) (i h n : Int) (hb : b.length ≤ 1048576) (hi : CurOk b i) : ∃ r i' h', spec_l01Below.f b i h n = some (r, i', h') ∧ 0 ≤ r ∧ (0 < n → r < n) ∧ (n ≤ 0 → r = 0) ∧ CurOk b i' := by
  unfold spec_l01Below.f
  by_cases c : n ≤ 0
  · rw [if_pos c]
    exact ⟨_, _, _, rfl, Int.le_refl _, fun h => by omega, fun _ => rfl, hi⟩
  rw [if_neg c]
  obtain ⟨r1, i1, h1, e1, q1, g1⟩ := draw_byte b i h hb hi
  by_cases c2 : n ≤ 256
  · rw [if_pos c2, e1, Option.bind_some, if_neg (by omega)]
    exact ⟨_, _, _, rfl, Int.tmod_nonneg _ q1.1, fun _ => Int.tmod_lt_of_pos _ (by omega), fun h => by omega, g1⟩
  · rw [if_neg c2]
    obtain ⟨r2, i2, h2, e2, q2, g2⟩ := draw_byte b i1 h1 hb g1
    obtain ⟨r3, i3, h3, e3, q3, g3⟩ := draw_byte b i2 h2 hb g2
    obtain ⟨r4, i4, h4, e4, q4, g4⟩ := draw_byte b i3 h3 hb g3
    simp only [e1, e2, e3, e4, Option.bind_some]
    rw [if_neg (by omega), w64 (x := r1 * 16777216) (by omega) (by omega), w64 (x := r2 * 65536) (by omega) (by omega), w64 (x := r1 * 16777216 + r2 * 65536) (by omega) (by omega), w64 (x := r3 * 256) (by omega) (by omega), w64 (x := r1 * 16777216 + r2 * 65536 + r3 * 256) (by omega) (by omega), w64 (x := r1 * 16777216 + r2 * 65536 + r3 * 256 + r4) (by omega) (by omega)]
    exact ⟨_, _, _, rfl, Int.tmod_nonneg _ (by omega), fun _ => Int.tmod_lt_of_pos _ (by omega), fun h => by omega, g4⟩
theorem draw_new0 (b : List Int) (hb : b.length ≤ 1048576) : ∀ (m j : Nat) (x : Int), j + m = b.length → ∃ h, Ev (fun k => spec_l01New.l0 k b x (j : Int)) (b, 0, h)
  | 0, j, x, e => by
    refine ⟨x, ev_step ?_⟩
    simp only [spec_l01New.l0]
    exact ev_neg (by omega) (Ev.now _)
  | m + 1, j, x, e => by
    by_cases c : (j : Int) < 4000
    · obtain ⟨h, hh⟩ := draw_new0 b hb m (j + 1) (Go.bits .and .i64 (wrap64 ((wrap64 ((wrap64 (x * 131)) + (wrap64 (rd b (j : Int))))) + 7)) 1073741823) (by omega)
      refine ⟨h, ev_step ?_⟩
      simp only [spec_l01New.l0]
      rw [next64 _ (by omega)]
      exact ev_pos (by omega) (ev_pos c (ev_pos (by omega) hh))
    · refine ⟨x, ev_step ?_⟩
      simp only [spec_l01New.l0]
      exact ev_pos (by omega) (ev_neg c (Ev.now _))
theorem draw_new (b : List Int) (hb : b.length ≤ 1048576) : ∃ h, Ev (fun k => spec_l01New.f k b) (b, 0, h) := draw_new0 b hb b.length 0 _ (by omega)
theorem cur0 (b : List Int) : CurOk b 0 := ⟨Int.le_refl _, by omega⟩
theorem strOfNums_size (x : List Int) : (strOfNums x).size = x.length := by
  show (List.map (fun n : Int => UInt8.ofNat n.toNat) x).toArray.size = _
  simp

theorem within_val (a b c : Int) : impl_within.f a b c = some (decide (b ≤ a ∧ a ≤ c)) := by
  unfold impl_within.f
  by_cases h : a ≥ b
  · rw [if_pos h]; congr 1; simp; intro; exact h
  · rw [if_neg h]; congr 1; simp; intro h2; omega
theorem in_val (a b c : Int) : spec_l01In.f a b c = some (decide (b ≤ a ∧ a ≤ c)) := by
  unfold spec_l01In.f
  by_cases h : a ≥ b
  · rw [if_pos h]; congr 1; simp; intro; exact h
  · rw [if_neg h]; congr 1; simp; intro h2; omega

/-- Both answers on keys, from a place on. -/
theorem keyOk_l (s : ByteArray) (hs : s.size ≤ 140737488351232) : ∀ (d i : Nat), i + d = s.size → ∃ r, Ev (fun k => spec_KeyOk.l0 k s i) r ∧ Ev (fun k => impl_KeyOk.l0 k s i) r := by
  intro d
  induction d with
  | zero =>
    intro i hi
    obtain ⟨v, hv⟩ : ∃ v, impl_within.f (s.size : Int) 1 3 = some v := by unfold impl_within.f; split <;> exact ⟨_, rfl⟩
    have hv2 : spec_l01In.f (s.size : Int) 1 3 = some v := hv
    refine ⟨v, ev_step ?_, ev_step ?_⟩
    · simp only [spec_KeyOk.l0]
      exact ev_neg (by omega) (ev_cbind hv2 (Ev.now _))
    · simp only [impl_KeyOk.l0]
      exact ev_neg (by omega) (ev_cbind hv (Ev.now _))
  | succ d ih =>
    intro i hi
    by_cases h1 : bt s i < 97
    · refine ⟨false, ev_step ?_, ev_step ?_⟩
      · simp only [spec_KeyOk.l0]
        exact ev_pos (by omega) (ev_pos (by omega) (ev_pos h1 (Ev.now _)))
      · simp only [impl_KeyOk.l0]
        exact ev_pos (by omega) (ev_pos (by omega) (ev_pos h1 (Ev.now _)))
    · by_cases h2 : bt s i > 122
      · refine ⟨false, ev_step ?_, ev_step ?_⟩
        · simp only [spec_KeyOk.l0]
          exact ev_pos (by omega) (ev_pos (by omega) (ev_neg h1 (ev_pos h2 (Ev.now _))))
        · simp only [impl_KeyOk.l0]
          exact ev_pos (by omega) (ev_pos (by omega) (ev_neg h1 (ev_pos h2 (Ev.now _))))
      · obtain ⟨r, e1, e2⟩ := ih (i + 1) (by omega)
        have e : wrap64 ((i : Int) + 1) = ((i + 1 : Nat) : Int) := by rw [w64 (by omega) (by omega)]; omega
        refine ⟨r, ev_step ?_, ev_step ?_⟩
        · simp only [spec_KeyOk.l0]
          refine ev_pos (by omega) (ev_pos (by omega) (ev_neg h1 (ev_neg h2 ?_)))
          rw [e]; exact e1
        · simp only [impl_KeyOk.l0]
          refine ev_pos (by omega) (ev_pos (by omega) (ev_neg h1 (ev_neg h2 ?_)))
          rw [e]; exact e2
theorem keyOk_both (s : ByteArray) (hs : s.size ≤ 140737488351232) : ∃ r, Ev (fun k => spec_KeyOk.f k s) r ∧ Ev (fun k => impl_KeyOk.f k s) r := keyOk_l s hs s.size 0 (by omega)

/-! versions are right -/
theorem less_asym (a b : List UInt8) (h : Op.bytesLess a b = true) : Op.bytesLess b a = false := by
  have t := StrCmp.less_total a b
  rw [h, Bool.true_or] at t
  cases hb : Op.bytesLess b a with
  | false => rfl
  | true => rw [hb] at t; cases t
theorem less_irr (a : List UInt8) : Op.bytesLess a a = false := by
  cases h : Op.bytesLess a a with
  | false => rfl
  | true => rw [less_asym a a h] at h; cases h
theorem less_eq (a b : List UInt8) (h1 : Op.bytesLess a b = false) (h2 : Op.bytesLess b a = false) : a = b := by
  have t := StrCmp.less_total a b
  rw [h1, h2, Bool.false_or] at t
  exact eq_of_beq t
def cmpS (a b : ByteArray) : Int := if Op.bytesLess a.toList b.toList = true then -1 else if Op.bytesLess b.toList a.toList = true then 1 else 0
theorem cmpS_val (a b : ByteArray) : cmp_Compare_string.f a b = some (cmpS a b) := by
  unfold cmp_Compare_string.f cmp_isNaN_string.f cmpS
  rw [Option.bind_some, Option.bind_some, bne_self_eq_false, bne_self_eq_false, if_neg (by decide), if_neg (by decide)]
  split
  · rfl
  · split <;> rfl
def cmpI (a b : Int) : Int := if a < b then -1 else if a > b then 1 else 0
theorem cmpI_val (a b : Int) : cmp_Compare_int.f a b = some (cmpI a b) := by
  unfold cmp_Compare_int.f cmp_isNaN_int.f cmpI
  rw [Option.bind_some, Option.bind_some, bne_self_eq_false, bne_self_eq_false, if_neg (by decide), if_neg (by decide)]
  split
  · rfl
  · split <;> rfl
def badOrd (y x : IVersion) : Bool := if Op.bytesLess x.f0.toList y.f0.toList = true then true else if y.f0.toList = x.f0.toList then decide (y.f3 ≥ x.f3) else false
theorem compare_val (y x : IVersion) : ∃ t, impl_compareVersion.f y.f0 y.f1 y.f2 y.f3 x.f0 x.f1 x.f2 x.f3 = some t ∧ (t ≥ 0 ↔ badOrd y x = true) := by
  unfold impl_compareVersion.f badOrd
  rw [cmpS_val, Option.bind_some]
  unfold cmpS
  cases h1 : Op.bytesLess y.f0.toList x.f0.toList with
  | true =>
    have h2 := less_asym _ _ h1
    have h3 : ¬ y.f0.toList = x.f0.toList := fun e => by rw [e, less_irr] at h1; cases h1
    refine ⟨-1, rfl, ?_⟩
    rw [h2, if_neg (by decide), if_neg h3]
    decide
  | false =>
    cases h2 : Op.bytesLess x.f0.toList y.f0.toList with
    | true =>
      refine ⟨1, rfl, ?_⟩
      rw [if_pos rfl]
      decide
    | false =>
      have h3 := less_eq _ _ h1 h2
      refine ⟨cmpI y.f3 x.f3, ?_, ?_⟩
      · show (if (0 : Int) = 0 then _ else _) = _
        rw [if_pos rfl, cmpI_val]
        rfl
      · rw [if_neg (by decide), if_pos h3, decide_eq_true_eq]
        unfold cmpI
        split
        · omega
        · split <;> omega
theorem versionsOk_l (l : List IVersion) (hl : l.length ≤ 1048576) (hz : ∀ x ∈ l, x.f0.size ≤ 140737488351232) : ∀ (rest pre : List IVersion), l = pre ++ rest →
    ∃ r, Ev (fun k => spec_VersionsOk.l0 k l (pre.length : Int)) r ∧ Ev (fun k => impl_VersionsOk.l0 k l l (l.length : Int) (pre.length : Int)) r := by
  intro rest
  induction rest with
  | nil =>
    intro pre e
    have hn : ¬ (pre.length : Int) < (l.length : Int) := by rw [e]; simp
    refine ⟨decide ((l.length : Int) ≤ 120), ev_step ?_, ev_step ?_⟩
    · simp only [spec_VersionsOk.l0]
      exact ev_neg hn (Ev.now _)
    · simp only [impl_VersionsOk.l0]
      exact ev_neg hn (Ev.now _)
  | cons x rest ih =>
    intro pre e
    have hg : rd_T57 l (pre.length : Int) = x := by unfold rd_T57; rw [Int.toNat_natCast, e, getD_mid]
    have hlt : (pre.length : Int) < (l.length : Int) := by rw [e]; exact len_mid _ _ _
    obtain ⟨r, i1, i2⟩ := ih (pre ++ [x]) (by simp [e])
    rw [List.length_append, List.length_singleton] at i1 i2
    obtain ⟨v, w1, w2⟩ := keyOk_both x.f0 (hz x (by rw [e]; simp))
    have hn : wrap64 ((pre.length : Int) + 1) = ((pre.length + 1 : Nat) : Int) := next64 _ (by omega)
    have hw : wrap64 ((pre.length : Int) - 1) = (pre.length : Int) - 1 := w64 (by omega) (by omega)
    obtain ⟨R, s1, s2⟩ : ∃ R, Ev (fun k => spec_VersionsOk.j1 k l (pre.length : Int) (!decide (1 ≤ x.f3 ∧ x.f3 ≤ 9999)) x.f0 x.f1 x.f2 x.f3) R ∧
        Ev (fun k => if decide (1 ≤ x.f3 ∧ x.f3 ≤ 9999) = true then (if (pre.length : Int) > 0 then (if 0 ≤ ((pre.length : Int) - 1) then (if ((pre.length : Int) - 1) < (l.length : Int) then ((impl_compareVersion.f (rd_T57 l ((pre.length : Int) - 1)).f0 (rd_T57 l ((pre.length : Int) - 1)).f1 (rd_T57 l ((pre.length : Int) - 1)).f2 (rd_T57 l ((pre.length : Int) - 1)).f3 x.f0 x.f1 x.f2 x.f3).bind fun t => (if t ≥ 0 then (some false) else (impl_VersionsOk.l0 k l l (l.length : Int) ((pre.length + 1 : Nat) : Int)))) else (none)) else (none)) else (impl_VersionsOk.l0 k l l (l.length : Int) ((pre.length + 1 : Nat) : Int))) else (some false)) R := by
      by_cases b : 1 ≤ x.f3 ∧ x.f3 ≤ 9999
      · rw [decide_eq_true b]
        by_cases c : (pre.length : Int) > 0
        · generalize hy : rd_T57 l ((pre.length : Int) - 1) = y
          obtain ⟨t, c1, c2⟩ := compare_val y x
          unfold badOrd at c2
          have spec_go : ∀ R, Ev (fun k => if Op.bytesLess x.f0.toList y.f0.toList = true then some false else if y.f0.toList = x.f0.toList then (if y.f3 ≥ x.f3 then some false else spec_VersionsOk.l0 k l ((pre.length + 1 : Nat) : Int)) else spec_VersionsOk.l0 k l ((pre.length + 1 : Nat) : Int)) R → Ev (fun k => spec_VersionsOk.j1 k l (pre.length : Int) (!true) x.f0 x.f1 x.f2 x.f3) R := fun R h => by
            refine ev_step ?_
            simp only [spec_VersionsOk.j1]
            rw [hw, hn, hy]
            exact ev_neg (by decide) (ev_pos c (ev_pos (by omega) (ev_pos (by omega) h)))
          have impl_go : ∀ R, Ev (fun k => if t ≥ 0 then (some false) else (impl_VersionsOk.l0 k l l (l.length : Int) ((pre.length + 1 : Nat) : Int))) R → Ev (fun k => if true = true then (if (pre.length : Int) > 0 then (if 0 ≤ ((pre.length : Int) - 1) then (if ((pre.length : Int) - 1) < (l.length : Int) then ((impl_compareVersion.f y.f0 y.f1 y.f2 y.f3 x.f0 x.f1 x.f2 x.f3).bind fun t => (if t ≥ 0 then (some false) else (impl_VersionsOk.l0 k l l (l.length : Int) ((pre.length + 1 : Nat) : Int)))) else (none)) else (none)) else (impl_VersionsOk.l0 k l l (l.length : Int) ((pre.length + 1 : Nat) : Int))) else (some false)) R := fun R h => ev_pos rfl (ev_pos c (ev_pos (by omega) (ev_pos (by omega) (ev_cbind c1 h))))
          by_cases d1 : Op.bytesLess x.f0.toList y.f0.toList = true
          · rw [if_pos d1] at c2
            exact ⟨false, spec_go _ (ev_pos d1 (Ev.now _)), impl_go _ (ev_pos (c2.2 rfl) (Ev.now _))⟩
          · rw [if_neg d1] at c2
            by_cases d2 : y.f0.toList = x.f0.toList
            · rw [if_pos d2, decide_eq_true_eq] at c2
              by_cases d3 : y.f3 ≥ x.f3
              · exact ⟨false, spec_go _ (ev_neg d1 (ev_pos d2 (ev_pos d3 (Ev.now _)))), impl_go _ (ev_pos (c2.2 d3) (Ev.now _))⟩
              · exact ⟨r, spec_go _ (ev_neg d1 (ev_pos d2 (ev_neg d3 i1))), impl_go _ (ev_neg (fun h => d3 (c2.1 h)) i2)⟩
            · rw [if_neg d2] at c2
              exact ⟨r, spec_go _ (ev_neg d1 (ev_neg d2 i1)), impl_go _ (ev_neg (fun h => by cases c2.1 h) i2)⟩
        · refine ⟨r, ev_step ?_, ev_pos rfl (ev_neg c i2)⟩
          simp only [spec_VersionsOk.j1]
          rw [hn]
          exact ev_neg (by decide) (ev_neg c i1)
      · rw [decide_eq_false b]
        refine ⟨false, ev_step ?_, ev_neg (by decide) (Ev.now _)⟩
        simp only [spec_VersionsOk.j1]
        exact ev_pos (by first | rfl | trivial) (Ev.now _)
    have bad : Ev (fun k => spec_VersionsOk.j1 k l (pre.length : Int) true x.f0 x.f1 x.f2 x.f3) false := by
      refine ev_step ?_
      simp only [spec_VersionsOk.j1]
      exact ev_pos (by first | rfl | trivial) (Ev.now _)
    have out : (∃ R, Ev (fun k => (spec_KeyOk.f k x.f0).bind fun t107 => (if t107 = true then (if ((x.f1).size : Int) > 12 then (spec_VersionsOk.j1 k l (pre.length : Int) true x.f0 x.f1 x.f2 x.f3) else (if x.f2 = true then (if (x.f1).toList = ([] : List UInt8) then ((spec_l01In.f (x.f3) 1 9999).bind fun t108 => (spec_VersionsOk.j1 k l (pre.length : Int) (!t108) x.f0 x.f1 x.f2 x.f3)) else (spec_VersionsOk.j1 k l (pre.length : Int) true x.f0 x.f1 x.f2 x.f3)) else ((spec_l01In.f (x.f3) 1 9999).bind fun t109 => (spec_VersionsOk.j1 k l (pre.length : Int) (!t109) x.f0 x.f1 x.f2 x.f3)))) else (spec_VersionsOk.j1 k l (pre.length : Int) true x.f0 x.f1 x.f2 x.f3))) R ∧ Ev (fun k => impl_VersionsOk.l0 k l l (l.length : Int) (pre.length : Int)) R) := by
      cases v with
      | false =>
        refine ⟨false, ev_bind w1 (ev_neg (by simp) bad), ev_step ?_⟩
        simp only [impl_VersionsOk.l0]
        rw [hg]
        exact ev_pos hlt (ev_pos (by omega) (ev_pos hlt (ev_bind w2 (ev_neg (by simp) (Ev.now _)))))
      | true =>
        by_cases c1 : ((x.f1).size : Int) > 12
        · refine ⟨false, ev_bind w1 (ev_pos rfl (ev_pos c1 bad)), ev_step ?_⟩
          simp only [impl_VersionsOk.l0]
          rw [hg]
          exact ev_pos hlt (ev_pos (by omega) (ev_pos hlt (ev_bind w2 (ev_pos rfl (ev_pos c1 (Ev.now _))))))
        · by_cases c2 : x.f2 = true
          · by_cases c3 : (x.f1).toList = ([] : List UInt8)
            · refine ⟨R, ev_bind w1 (ev_pos rfl (ev_neg c1 (ev_pos c2 (ev_pos c3 (ev_cbind (in_val _ _ _) s1))))), ev_step ?_⟩
              simp only [impl_VersionsOk.l0]
              rw [hg, hw, hn]
              exact ev_pos hlt (ev_pos (by omega) (ev_pos hlt (ev_bind w2 (ev_pos rfl (ev_neg c1 (ev_pos c2 (ev_pos c3 (ev_cbind (within_val _ _ _) s2))))))))
            · refine ⟨false, ev_bind w1 (ev_pos rfl (ev_neg c1 (ev_pos c2 (ev_neg c3 bad)))), ev_step ?_⟩
              simp only [impl_VersionsOk.l0]
              rw [hg]
              exact ev_pos hlt (ev_pos (by omega) (ev_pos hlt (ev_bind w2 (ev_pos rfl (ev_neg c1 (ev_pos c2 (ev_neg c3 (Ev.now _))))))))
          · refine ⟨R, ev_bind w1 (ev_pos rfl (ev_neg c1 (ev_neg c2 (ev_cbind (in_val _ _ _) s1)))), ev_step ?_⟩
            simp only [impl_VersionsOk.l0]
            rw [hg, hw, hn]
            exact ev_pos hlt (ev_pos (by omega) (ev_pos hlt (ev_bind w2 (ev_pos rfl (ev_neg c1 (ev_neg c2 (ev_cbind (within_val _ _ _) s2)))))))
    obtain ⟨R2, o1, o2⟩ := out
    refine ⟨R2, ev_step ?_, o2⟩
    simp only [spec_VersionsOk.l0]
    rw [hg]
    exact ev_pos hlt (ev_pos (by omega) o1)
theorem versionsOk_both (l : List IVersion) (hl : l.length ≤ 1048576) (hz : ∀ x ∈ l, x.f0.size ≤ 140737488351232) : ∃ r, Ev (fun k => spec_VersionsOk.f k l) r ∧ Ev (fun k => impl_VersionsOk.f k l) r := versionsOk_l l hl hz l [] rfl

theorem less_trans : ∀ (a b c : List UInt8), Op.bytesLess a b = true → Op.bytesLess b c = true → Op.bytesLess a c = true
  | _, [], _, h, _ => by cases ‹List UInt8› <;> simp [Op.bytesLess] at h
  | _, _ :: _, [], _, h => by simp [Op.bytesLess] at h
  | [], _ :: _, _ :: _, _, _ => rfl
  | x :: a, y :: b, z :: c, h1, h2 => by
    simp only [Op.bytesLess, Bool.or_eq_true, Bool.and_eq_true, decide_eq_true_eq, beq_iff_eq, UInt8.lt_iff_toNat_lt] at h1 h2 ⊢
    rcases h1 with h1 | ⟨rfl, h1⟩
    · rcases h2 with h2 | ⟨rfl, h2⟩
      · exact .inl (by omega)
      · exact .inl h1
    · rcases h2 with h2 | ⟨rfl, h2⟩
      · exact .inl h2
      · exact .inr ⟨rfl, less_trans a b c h1 h2⟩

/-! a write is put among others -/
def ltW (a b : ByteArray) : Bool := Op.bytesLess a.toList b.toList
def SrtW (L : List IWrite) : Prop := L.Pairwise fun a b => ltW a.f0 b.f0 = true
def putW (w : IWrite) (L : List IWrite) : List IWrite := L.filter (fun x => ltW x.f0 w.f0) ++ [w] ++ L.filter (fun x => ltW w.f0 x.f0)
theorem ltW_irr (a : ByteArray) : ltW a a = false := less_irr _
theorem ltW_asym {a b : ByteArray} (h : ltW a b = true) : ltW b a = false := less_asym _ _ h
theorem ltW_trans {a b c : ByteArray} (h : ltW a b = true) (k : ltW b c = true) : ltW a c = true := less_trans _ _ _ h k
theorem ltW_eq {a b : ByteArray} (h : ltW a b = false) (k : ltW b a = false) : a = b := toList_inj' (less_eq _ _ h k)
theorem putW_length (w : IWrite) : ∀ (L : List IWrite), (putW w L).length ≤ L.length + 1 := by
  intro L
  have h : (L.filter (fun x => ltW x.f0 w.f0)).length + (L.filter (fun x => ltW w.f0 x.f0)).length ≤ L.length := by
    induction L with
    | nil => simp
    | cons x L ih =>
      rw [List.filter_cons, List.filter_cons]
      cases c : ltW x.f0 w.f0 with
      | true =>
        rw [ltW_asym c]
        simp only [if_true, Bool.false_eq_true, if_false, List.length_cons]
        omega
      | false =>
        cases d : ltW w.f0 x.f0 with
        | true => simp only [if_true, Bool.false_eq_true, if_false, List.length_cons]; omega
        | false => simp only [Bool.false_eq_true, if_false, List.length_cons]; omega
  unfold putW
  rw [List.length_append, List.length_append, List.length_singleton]
  omega
theorem putW_mem {w x : IWrite} {L : List IWrite} (h : x ∈ putW w L) : x = w ∨ x ∈ L := by
  unfold putW at h
  rcases List.mem_append.1 h with h | h
  · rcases List.mem_append.1 h with h | h
    · exact .inr (List.mem_filter.1 h).1
    · exact .inl (List.mem_singleton.1 h)
  · exact .inr (List.mem_filter.1 h).1
theorem putW_srt (w : IWrite) (L : List IWrite) (h : SrtW L) : SrtW (putW w L) := by
  unfold SrtW putW
  rw [List.append_assoc, List.pairwise_append]
  refine ⟨h.sublist List.filter_sublist, ?_, ?_⟩
  · rw [List.singleton_append, List.pairwise_cons]
    exact ⟨fun x hx => (List.mem_filter.1 hx).2, h.sublist List.filter_sublist⟩
  · intro a ha b hb
    have ha2 := (List.mem_filter.1 ha).2
    rcases List.mem_append.1 hb with hb | hb
    · rw [List.mem_singleton] at hb; subst hb; exact ha2
    · exact ltW_trans ha2 (List.mem_filter.1 hb).2
theorem putW_at (w : IWrite) (pre rest : List IWrite) (h : SrtW (pre ++ rest)) (hp : ∀ x ∈ pre, ltW x.f0 w.f0 = true) (hr : ∀ x ∈ rest, ltW x.f0 w.f0 = false) : putW w (pre ++ rest) = pre ++ [w] ++ rest.filter (fun x => ltW w.f0 x.f0) := by
  unfold putW
  rw [List.filter_append, List.filter_append, List.filter_eq_self.2 hp, List.filter_eq_nil_iff.2 (fun x hx => by rw [hr x hx]; decide), List.append_nil]
  rw [List.filter_eq_nil_iff.2 (fun x hx => by rw [ltW_asym (hp x hx)]; decide), List.nil_append]
theorem srt_tail {pre rest : List IWrite} {x : IWrite} (h : SrtW (pre ++ x :: rest)) : ∀ y ∈ rest, ltW x.f0 y.f0 = true := by
  have h2 := (List.pairwise_append.1 h).2.1
  exact (List.pairwise_cons.1 h2).1
theorem spec_put1 (w : IWrite) (L : List IWrite) (hL : L.length ≤ 1048576) : ∀ (rest pre acc : List IWrite), L = pre ++ rest → acc.length ≤ L.length + 1 + pre.length → Ev (fun k => spec_PutWrite.l1 k L acc (pre.length : Int) w.f0 w.f1 w.f2) (acc ++ rest.filter (fun x => ltW w.f0 x.f0))
  | [], pre, acc, e, h => by
    refine ev_step ?_
    simp only [spec_PutWrite.l1]
    exact ev_neg (by rw [e]; simp) (ev_now (by simp))
  | x :: rest, pre, acc, e, h => by
    have hg : rd_T42 L (pre.length : Int) = x := by unfold rd_T42; rw [Int.toNat_natCast, e, getD_mid]
    have hlt : (pre.length : Int) < (L.length : Int) := by rw [e]; exact len_mid _ _ _
    refine ev_step ?_
    simp only [spec_PutWrite.l1]
    rw [hg, next64 _ (by omega)]
    refine ev_pos hlt (ev_pos (by omega) ?_)
    by_cases c : ltW w.f0 x.f0 = true
    · have ih := spec_put1 w L hL rest (pre ++ [x]) (acc ++ [x]) (by simp [e]) (by simp; omega)
      rw [List.length_append, List.length_singleton] at ih
      refine ev_pos c (ev_pos (by omega) (ev_eq ih ?_))
      rw [List.filter_cons, if_pos c, List.append_assoc]
      rfl
    · have ih := spec_put1 w L hL rest (pre ++ [x]) acc (by simp [e]) (by simp; omega)
      rw [List.length_append, List.length_singleton] at ih
      refine ev_neg c (ev_eq ih ?_)
      rw [List.filter_cons, if_neg c]
theorem spec_put0 (w : IWrite) (L : List IWrite) (hL : L.length ≤ 1048576) : ∀ (rest pre acc : List IWrite), L = pre ++ rest → acc.length ≤ pre.length → Ev (fun k => spec_PutWrite.l0 k L acc (pre.length : Int) w.f0 w.f1 w.f2) (acc ++ rest.filter (fun x => ltW x.f0 w.f0) ++ [w] ++ L.filter (fun x => ltW w.f0 x.f0))
  | [], pre, acc, e, h => by
    have hL2 : L.length = pre.length := by rw [e, List.append_nil]
    refine ev_step ?_
    simp only [spec_PutWrite.l0]
    have h1 := spec_put1 w L hL L [] (acc ++ [w]) rfl (by simp; omega)
    exact ev_neg (by omega) (ev_pos (by omega) (ev_eq h1 (by simp)))
  | x :: rest, pre, acc, e, h => by
    have hg : rd_T42 L (pre.length : Int) = x := by unfold rd_T42; rw [Int.toNat_natCast, e, getD_mid]
    have hlt : (pre.length : Int) < (L.length : Int) := by rw [e]; exact len_mid _ _ _
    refine ev_step ?_
    simp only [spec_PutWrite.l0]
    rw [hg, next64 _ (by omega)]
    refine ev_pos hlt (ev_pos (by omega) ?_)
    by_cases c : ltW x.f0 w.f0 = true
    · have ih := spec_put0 w L hL rest (pre ++ [x]) (acc ++ [x]) (by simp [e]) (by simp; omega)
      rw [List.length_append, List.length_singleton] at ih
      refine ev_pos c (ev_pos (by omega) (ev_eq ih ?_))
      rw [List.filter_cons, if_pos c]
      simp
    · have ih := spec_put0 w L hL rest (pre ++ [x]) acc (by simp [e]) (by simp; omega)
      rw [List.length_append, List.length_singleton] at ih
      refine ev_neg c (ev_eq ih ?_)
      rw [List.filter_cons, if_neg c]
theorem spec_putW (w : IWrite) (L : List IWrite) (hL : L.length ≤ 1048576) : Ev (fun k => spec_PutWrite.f k L w.f0 w.f1 w.f2) (putW w L) := by
  unfold spec_PutWrite.f
  exact ev_eq (spec_put0 w L hL L [] [] rfl (Nat.le_refl _)) (by unfold putW; simp)

theorem draw_once (b : List Int) (i h n : Int) (hb : b.length ≤ 1048576) (hi : CurOk b i) : ∃ r i' h', spec_l01Once.f b i h n = some (r, i', h') ∧ CurOk b i' := by
  unfold spec_l01Once.f
  obtain ⟨r, i1, h1, e1, _, _, _, g1⟩ := draw_below b i h n hb hi
  rw [e1, Option.bind_some]
  exact ⟨_, _, _, rfl, g1⟩

theorem draw_pick (b : List Int) (i h : Int) (l : List ByteArray) (hb : b.length ≤ 1048576) (g : CurOk b i) (h0 : 0 < l.length) : ∃ v i' h', spec_l01Pick.f b i h l = some (v, i', h') ∧ v ∈ l ∧ CurOk b i' := by
  unfold spec_l01Pick.f
  obtain ⟨r, i1, h1, e1, q1, q2, _, g1⟩ := draw_below b i h (l.length : Int) hb g
  have q3 := q2 (by omega)
  rw [e1, Option.bind_some, if_pos q1, if_pos q3]
  refine ⟨_, _, _, rfl, ?_, g1⟩
  unfold rdOf
  have h2 : r.toNat < l.length := by omega
  rw [List.getD_eq_getElem?_getD, List.getElem?_eq_getElem h2, Option.getD_some]
  exact List.getElem_mem h2
def keysL : List ByteArray := [(⟨#[97]⟩ : ByteArray), (⟨#[98]⟩ : ByteArray), (⟨#[99]⟩ : ByteArray), (⟨#[100]⟩ : ByteArray), (⟨#[97, 98]⟩ : ByteArray)]
theorem draw_key (b : List Int) (i h : Int) (hb : b.length ≤ 1048576) (g : CurOk b i) : ∃ v i' h', spec_l05Key.f b i h = some (v, i', h') ∧ v ∈ keysL ∧ CurOk b i' := by
  unfold spec_l05Key.f
  obtain ⟨v, i1, h1, e1, m, g1⟩ := draw_pick b i h keysL hb g (by decide)
  unfold keysL at e1
  rw [e1, Option.bind_some]
  exact ⟨_, _, _, rfl, m, g1⟩

theorem key_good0 (s : ByteArray) (h1 : 1 ≤ s.size) (h2 : s.size ≤ 3) (hb : ∀ i : Nat, i < s.size → 97 ≤ bt s (i : Int) ∧ bt s (i : Int) ≤ 122) : ∀ (m j : Nat), j + m = s.size → Ev (fun k => impl_KeyOk.l0 k s (j : Int)) true
  | 0, j, e => by
    refine ev_step ?_
    simp only [impl_KeyOk.l0]
    rw [within_val, decide_eq_true (by omega)]
    exact ev_neg (by omega) (ev_cbind rfl (Ev.now _))
  | m + 1, j, e => by
    have h := hb j (by omega)
    refine ev_step ?_
    simp only [impl_KeyOk.l0]
    rw [next64 _ (by omega)]
    exact ev_pos (by omega) (ev_pos (by omega) (ev_neg (by omega) (ev_neg (by omega) (key_good0 s h1 h2 hb m (j + 1) (by omega)))))
theorem key_good (s : ByteArray) (h : s ∈ keysL) : Ev (fun k => impl_KeyOk.f k s) true := by
  have hz : (1 ≤ s.size ∧ s.size ≤ 3) ∧ ∀ i : Nat, i < s.size → 97 ≤ bt s (i : Int) ∧ bt s (i : Int) ≤ 122 := by
    unfold keysL at h
    simp only [List.mem_cons, List.not_mem_nil, or_false] at h
    have one : ∀ c : UInt8, 97 ≤ c.toNat ∧ c.toNat ≤ 122 → ((1 ≤ (⟨#[c]⟩ : ByteArray).size ∧ (⟨#[c]⟩ : ByteArray).size ≤ 3) ∧ ∀ i : Nat, i < (⟨#[c]⟩ : ByteArray).size → 97 ≤ bt ⟨#[c]⟩ (i : Int) ∧ bt ⟨#[c]⟩ (i : Int) ≤ 122) := fun c hc => by
      refine ⟨⟨Nat.le_refl _, by show 1 ≤ 3; decide⟩, fun i hi => ?_⟩
      have : i = 0 := by have : (⟨#[c]⟩ : ByteArray).size = 1 := rfl; omega
      subst this
      show (97 : Int) ≤ (c.toNat : Int) ∧ (c.toNat : Int) ≤ 122
      omega
    rcases h with rfl | rfl | rfl | rfl | rfl
    · exact one 97 (by decide)
    · exact one 98 (by decide)
    · exact one 99 (by decide)
    · exact one 100 (by decide)
    · refine ⟨⟨by show 1 ≤ 2; decide, by show 2 ≤ 3; decide⟩, fun i hi => ?_⟩
      have h2 : i < 2 := hi
      rcases (show i = 0 ∨ i = 1 by omega) with rfl | rfl
      · show (97 : Int) ≤ 97 ∧ (97 : Int) ≤ 122; decide
      · show (97 : Int) ≤ 98 ∧ (98 : Int) ≤ 122; decide
  unfold impl_KeyOk.f
  exact key_good0 s hz.1.1 hz.1.2 hz.2 s.size 0 (by omega)
theorem keys_small (s : ByteArray) (h : s ∈ keysL) : s.size ≤ 140737488351232 := by
  unfold keysL at h
  simp only [List.mem_cons, List.not_mem_nil, or_false] at h
  rcases h with rfl | rfl | rfl | rfl | rfl
  · show 1 ≤ _; decide
  · show 1 ≤ _; decide
  · show 1 ≤ _; decide
  · show 1 ≤ _; decide
  · show 2 ≤ _; decide

/-! long texts of one byte -/
theorem long0 (N : Nat) (x : Int) (hN : N ≤ 1099511627776) : ∀ (m j : Nat), j + m = N → Ev (fun k => spec_l01Long.l0 k (N : Int) x (List.replicate j x ++ List.replicate m 0) (j : Int)) (strOfNums (List.replicate N x))
  | 0, j, e => by
    refine ev_step ?_
    simp only [spec_l01Long.l0]
    obtain rfl : j = N := by omega
    exact ev_neg (by omega) (ev_now (by simp))
  | m + 1, j, e => by
    refine ev_step ?_
    simp only [spec_l01Long.l0]
    have h := long0 N x hN m (j + 1) (by omega)
    have hs : (List.replicate j x ++ List.replicate (m + 1) (0 : Int)).set (j : Int).toNat x = List.replicate (j + 1) x ++ List.replicate m 0 := by
      rw [Int.toNat_natCast, List.set_append_right _ _ (by simp), List.length_replicate, Nat.sub_self, List.replicate_succ, List.set_cons_zero, List.replicate_succ']
      simp
    rw [hs, next64 _ (by omega)]
    exact ev_pos (by omega) (ev_pos (by omega) (ev_pos (by simp; omega) h))
theorem long_ok (N : Nat) (x : Int) (hN : N ≤ 1099511627776) : Ev (fun k => spec_l01Long.f k (N : Int) x) (strOfNums (List.replicate N x)) := by
  unfold spec_l01Long.f
  rw [Int.toNat_natCast]
  have h := long0 N x hN N 0 (by omega)
  exact ev_pos (by omega) (ev_pos (by omega) h)

/-! right writes are drawn -/
def GoodW (x : IWrite) : Prop := x.f0 ∈ keysL ∧ x.f1.size ≤ 12 ∧ (x.f2 = true → x.f1.toList = ([] : List UInt8))
theorem draw_write (b : List Int) (i h : Int) (hb : b.length ≤ 1048576) (g : CurOk b i) : ∃ (w : IWrite) (i' h' : Int), spec_l05Write.f b i h = some (w.f0, w.f1, w.f2, i', h') ∧ GoodW w ∧ CurOk b i' := by
  unfold spec_l05Write.f
  obtain ⟨v, i1, h1, e1, m1, g1⟩ := draw_key b i h hb g
  obtain ⟨v2, i2, h2, e2, m2, g2⟩ := draw_pick b i1 h1 [(⟨#[111, 110, 101]⟩ : ByteArray), (⟨#[116, 119, 111]⟩ : ByteArray), (⟨#[]⟩ : ByteArray), (⟨#[120, 0]⟩ : ByteArray)] hb g1 (by decide)
  obtain ⟨r, i3, h3, e3, g3⟩ := draw_once b i2 h2 5 hb g2
  rw [e1, Option.bind_some, e2, Option.bind_some, e3, Option.bind_some]
  by_cases c : r = true
  · rw [if_pos c]
    refine ⟨⟨v, ⟨#[]⟩, true⟩, _, _, rfl, ⟨m1, by show 0 ≤ 12; decide, fun _ => ?_⟩, g3⟩
    show (⟨#[]⟩ : ByteArray).toList = []
    rw [ByteArray.toList_eq]
  · rw [if_neg c]
    refine ⟨⟨v, v2, false⟩, _, _, rfl, ⟨m1, ?_, fun h => by cases h⟩, g3⟩
    simp only [List.mem_cons, List.not_mem_nil, or_false] at m2
    rcases m2 with rfl | rfl | rfl | rfl
    · show 3 ≤ 12; decide
    · show 3 ≤ 12; decide
    · show 0 ≤ 12; decide
    · show 2 ≤ 12; decide
theorem draw_writes0 (b : List Int) (hb : b.length ≤ 1048576) : ∀ (m j : Nat) (l : List IWrite) (i h : Int), j + m = 4 → l.length ≤ j → SrtW l → (∀ x ∈ l, GoodW x) → CurOk b i → ∃ W i' h', Ev (fun k => spec_l05Writes.l0 k l (j : Int) b i h) (W, i', h') ∧ (W.length ≤ 4 ∧ SrtW W ∧ ∀ x ∈ W, GoodW x) ∧ CurOk b i'
  | m, j, l, i, h, e, hl, hs, hG, g => by
    obtain ⟨r, i1, h1, e1, q1, q2, _, g1⟩ := draw_below b i h 4 hb g
    have q3 := q2 (by decide)
    by_cases c : (j : Int) < r
    · cases m with
      | zero => omega
      | succ m =>
        obtain ⟨w, i2, h2, e2, gw, g2⟩ := draw_write b i1 h1 hb g1
        have e4 := spec_putW w l (by omega)
        have hl2 := putW_length w l
        obtain ⟨W, i', h', e3, hW, g3⟩ := draw_writes0 b hb m (j + 1) (putW w l) i2 h2 (by omega) (by omega) (putW_srt w l hs) (fun x hx => by
          rcases putW_mem hx with rfl | hx
          · exact gw
          · exact hG x hx) g2
        refine ⟨W, i', h', ev_step ?_, hW, g3⟩
        simp only [spec_l05Writes.l0]
        rw [next64 _ (by omega)]
        exact ev_cbind e1 (ev_pos c (ev_cbind e2 (ev_bind e4 e3)))
    · refine ⟨l, i1, h1, ev_step ?_, ⟨by omega, hs, hG⟩, g1⟩
      simp only [spec_l05Writes.l0]
      exact ev_cbind e1 (ev_neg c (Ev.now _))
theorem draw_writes (b : List Int) (i h : Int) (hb : b.length ≤ 1048576) (g : CurOk b i) : ∃ W i' h', Ev (fun k => spec_l05Writes.f k b i h) (W, i', h') ∧ (W.length ≤ 4 ∧ SrtW W ∧ ∀ x ∈ W, GoodW x) ∧ CurOk b i' := draw_writes0 b hb 4 0 [] i h rfl (Nat.le_refl _) List.Pairwise.nil (fun x hx => by cases hx) g

/-! versions are put among others -/
def aftV (y v : IVersion) : Bool := if Op.bytesLess y.f0.toList v.f0.toList = true then false else if y.f0.toList = v.f0.toList then decide (v.f3 < y.f3) else true
theorem c1_val (y v : IVersion) : impl_PutVersions_c1.f y.f0 y.f1 y.f2 y.f3 v.f0 v.f1 v.f2 v.f3 = some (aftV y v) := by
  unfold impl_PutVersions_c1.f impl_compareVersion.f aftV
  rw [cmpS_val, Option.bind_some]
  unfold cmpS
  cases h1 : Op.bytesLess y.f0.toList v.f0.toList with
  | true => rfl
  | false =>
    cases h2 : Op.bytesLess v.f0.toList y.f0.toList with
    | true =>
      have h3 : ¬ y.f0.toList = v.f0.toList := fun e => by rw [e, less_irr] at h2; cases h2
      rw [if_neg h3]
      rfl
    | false =>
      have h3 := less_eq _ _ h1 h2
      rw [if_pos h3]
      show ((if (0 : Int) = 0 then _ else _) : Option Int).bind _ = _
      rw [if_pos rfl, cmpI_val]
      unfold cmpI
      show some (decide ((if y.f3 < v.f3 then (-1 : Int) else if y.f3 > v.f3 then 1 else 0) > 0)) = some (decide (v.f3 < y.f3))
      congr 1
      apply decide_eq_decide.2
      split
      · omega
      · split <;> omega
def insV (v : IVersion) : List IVersion → List IVersion
  | [] => [v]
  | y :: rest => if aftV y v = true then v :: y :: rest else y :: insV v rest
theorem insV_len (v : IVersion) : ∀ L, (insV v L).length = L.length + 1
  | [] => rfl
  | y :: rest => by
    simp only [insV]
    split
    · simp
    · simp [insV_len v rest]
theorem insV_mem (v x : IVersion) : ∀ L, x ∈ insV v L → x = v ∨ x ∈ L
  | [], h => by simp only [insV, List.mem_singleton] at h; exact .inl h
  | y :: rest, h => by
    simp only [insV] at h
    split at h
    · rcases List.mem_cons.1 h with h | h
      · exact .inl h
      · exact .inr h
    · rcases List.mem_cons.1 h with h | h
      · exact .inr (by simp [h])
      · rcases insV_mem v x rest h with h | h
        · exact .inl h
        · exact .inr (by simp [h])
theorem idx0 (v : IVersion) (L : List IVersion) (hL : L.length ≤ 2097152) : ∀ (rest pre : List IVersion), L = pre ++ rest → ∃ t, Ev (fun k => impl_Version_60.l0 k L (L.length : Int) (pre.length : Int) v.f0 v.f1 v.f2 v.f3) t ∧ ((t = -1 ∧ insV v rest = rest ++ [v]) ∨ ∃ p : Nat, t = (p : Int) ∧ p ≤ L.length ∧ L.take p ++ [v] ++ L.drop p = pre ++ insV v rest)
  | [], pre, e => by
    refine ⟨-1, ev_step ?_, .inl ⟨rfl, rfl⟩⟩
    simp only [impl_Version_60.l0]
    exact ev_neg (by rw [e]; simp) (Ev.now _)
  | y :: rest, pre, e => by
    have hg : rd_T57 L (pre.length : Int) = y := by unfold rd_T57; rw [Int.toNat_natCast, e, getD_mid]
    have hlt : (pre.length : Int) < (L.length : Int) := by rw [e]; exact len_mid _ _ _
    cases c : aftV y v with
    | true =>
      refine ⟨(pre.length : Int), ev_step ?_, .inr ⟨pre.length, rfl, by omega, ?_⟩⟩
      · simp only [impl_Version_60.l0]
        rw [hg]
        exact ev_pos hlt (ev_pos (by omega) (ev_pos hlt (ev_cbind (c1_val y v) (ev_pos c (Ev.now _)))))
      · rw [e]; simp [insV, c]
    | false =>
      obtain ⟨t, e1, h⟩ := idx0 v L hL rest (pre ++ [y]) (by simp [e])
      rw [List.length_append, List.length_singleton] at e1
      refine ⟨t, ev_step ?_, ?_⟩
      · simp only [impl_Version_60.l0]
        rw [hg, next64 _ (by omega)]
        exact ev_pos hlt (ev_pos (by omega) (ev_pos hlt (ev_cbind (c1_val y v) (ev_neg (by rw [c]; decide) e1))))
      · have hi : insV v (y :: rest) = y :: insV v rest := by simp [insV, c]
        rcases h with ⟨h1, h2⟩ | ⟨p, h1, h2, h3⟩
        · exact .inl ⟨h1, by rw [hi, h2]; rfl⟩
        · exact .inr ⟨p, h1, h2, by rw [h3, hi]; simp⟩
def putsV (cs : Int) : List IWrite → List IVersion → List IVersion
  | [], L => L
  | x :: rest, L => putsV cs rest (insV ⟨x.f0, x.f1, x.f2, cs⟩ L)
theorem putsV_len (cs : Int) : ∀ W L, (putsV cs W L).length = L.length + W.length
  | [], L => rfl
  | x :: rest, L => by
    simp only [putsV]
    rw [putsV_len cs rest, insV_len, List.length_cons]; omega
def SmallV (L : List IVersion) : Prop := ∀ x ∈ L, x.f0.size ≤ 140737488351232
theorem putsV_small (cs : Int) : ∀ (W : List IWrite) (L : List IVersion), (∀ x ∈ W, x.f0.size ≤ 140737488351232) → SmallV L → SmallV (putsV cs W L)
  | [], L, _, h => h
  | x :: rest, L, hw, h => putsV_small cs rest _ (fun y hy => hw y (by simp [hy])) (fun y hy => by
      rcases insV_mem _ _ _ hy with rfl | hy
      · exact hw x (by simp)
      · exact h y hy)
theorem implPV0 (W : List IWrite) (cs : Int) (hW : W.length ≤ 1048576) : ∀ (rest pre : List IWrite) (L : List IVersion), W = pre ++ rest → L.length + rest.length ≤ 2097152 → Ev (fun k => impl_PutVersions.l0 k cs L W (W.length : Int) (pre.length : Int)) (putsV cs rest L)
  | [], pre, L, e, hL => by
    refine ev_step ?_
    simp only [impl_PutVersions.l0, putsV]
    exact ev_neg (by rw [e]; simp) (Ev.now _)
  | x :: rest, pre, L, e, hL => by
    rw [List.length_cons] at hL
    have hg : rd_T42 W (pre.length : Int) = x := by unfold rd_T42; rw [Int.toNat_natCast, e, getD_mid]
    have hlt : (pre.length : Int) < (W.length : Int) := by rw [e]; exact len_mid _ _ _
    have ih := implPV0 W cs hW rest (pre ++ [x]) (insV ⟨x.f0, x.f1, x.f2, cs⟩ L) (by simp [e]) (by rw [insV_len]; omega)
    rw [List.length_append, List.length_singleton] at ih
    obtain ⟨t, e1, h⟩ := idx0 ⟨x.f0, x.f1, x.f2, cs⟩ L (by omega) L [] rfl
    have e2 : Ev (fun k => impl_Version_60.f k L x.f0 x.f1 x.f2 cs) t := e1
    refine ev_step ?_
    simp only [impl_PutVersions.l0, putsV]
    rw [hg, next64 _ (by omega)]
    refine ev_pos hlt (ev_pos (by omega) (ev_pos hlt (ev_bind e2 ?_)))
    rcases h with ⟨h1, h2⟩ | ⟨p, h1, h2, h3⟩
    · subst h1
      refine ev_pos (by decide) (ev_pos (by omega) (ev_pos (Int.le_refl _) (ev_pos (by omega) ?_)))
      rw [Int.toNat_natCast, List.take_length, List.drop_length, List.append_nil, ← h2]
      exact ih
    · subst h1
      refine ev_neg (by omega) (ev_pos (by omega) (ev_pos (by omega) (ev_pos (by omega) ?_)))
      rw [Int.toNat_natCast, h3]
      exact ih
theorem impl_putsV (W : List IWrite) (cs : Int) (hW : W.length ≤ 1048576) (L : List IVersion) (hL : L.length ≤ 1048576) : Ev (fun k => impl_PutVersions.f k L W cs) (putsV cs W L) := by
  unfold impl_PutVersions.f
  exact ev_pos (by simp; omega) (implPV0 W cs hW W [] L rfl (by omega))
theorem specPV1 (W : List IWrite) (cs : Int) (hW : W.length ≤ 1048576) (i : Nat) (hi : i ≤ 1048576) (v : IVersion) (L : List IVersion) (hL : L.length ≤ 2097152) (r : List IVersion) : ∀ (rest pre : List IVersion), L = pre ++ rest → Ev (fun k => spec_PutVersions.l0 k W cs (pre ++ insV v rest) ((i + 1 : Nat) : Int)) r → Ev (fun k => spec_PutVersions.l1 k W cs L (i : Int) pre (pre.length : Int) v.f0 v.f1 v.f2 v.f3) r
  | [], pre, e, h => by
    have hl : L.length = pre.length := by rw [e]; simp
    have hq : pre ++ [v] ++ L.drop (pre.length : Int).toNat = pre ++ insV v [] := by rw [e, Int.toNat_natCast]; simp [insV]
    refine ev_step ?_
    simp only [spec_PutVersions.l1]
    rw [next64 i (by omega)]
    refine ev_neg (by omega) (ev_pos (by omega) (ev_cbind rfl (ev_pos (by omega) (ev_pos (by omega) (ev_cbind rfl (ev_pos (by simp; omega) ?_))))))
    rw [← hq] at h
    exact h
  | y :: rest, pre, e, h => by
    have hg : rd_T57 L (pre.length : Int) = y := by unfold rd_T57; rw [Int.toNat_natCast, e, getD_mid]
    have hlt : (pre.length : Int) < (L.length : Int) := by rw [e]; exact len_mid _ _ _
    have ih := specPV1 W cs hW i hi v L hL r rest (pre ++ [y]) (by simp [e])
    rw [show (pre ++ [y]).length = pre.length + 1 by simp] at ih
    have hq : pre ++ [v] ++ L.drop (pre.length : Int).toNat = pre ++ v :: y :: rest := by rw [e, Int.toNat_natCast]; simp
    refine ev_step ?_
    simp only [spec_PutVersions.l1]
    rw [hg, next64 i (by omega), next64 pre.length (by omega)]
    refine ev_pos hlt (ev_pos (by omega) ?_)
    have go : aftV y v = false → Ev (fun k => spec_PutVersions.l1 k W cs L (i : Int) (pre ++ [y]) ((pre.length + 1 : Nat) : Int) v.f0 v.f1 v.f2 v.f3) r := fun c => ih (by
      have hi2 : insV v (y :: rest) = y :: insV v rest := by simp [insV, c]
      rw [hi2] at h
      rw [List.append_assoc]
      exact h)
    have stop : aftV y v = true → Ev (fun k => spec_PutVersions.l0 k W cs (pre ++ [v] ++ L.drop (pre.length : Int).toNat) ((i + 1 : Nat) : Int)) r := fun c => by
      have hi2 : insV v (y :: rest) = v :: y :: rest := by simp [insV, c]
      rw [hi2] at h
      rw [hq]
      exact h
    by_cases c1 : Op.bytesLess y.f0.toList v.f0.toList = true
    · exact ev_pos c1 (ev_pos (by omega) (go (by unfold aftV; rw [if_pos c1])))
    · refine ev_neg c1 ?_
      by_cases c2 : y.f0.toList = v.f0.toList
      · refine ev_pos c2 ?_
        by_cases c3 : y.f3 ≤ v.f3
        · exact ev_pos c3 (ev_pos (by omega) (go (by unfold aftV; rw [if_neg c1, if_pos c2]; exact decide_eq_false (by omega))))
        · exact ev_neg c3 (ev_pos (by omega) (ev_cbind rfl (ev_pos (by omega) (ev_cbind rfl (ev_pos (by simp; omega) (stop (by unfold aftV; rw [if_neg c1, if_pos c2]; exact decide_eq_true (by omega))))))))
      · exact ev_neg c2 (ev_pos (by omega) (ev_cbind rfl (ev_pos (by omega) (ev_cbind rfl (ev_pos (by simp; omega) (stop (by unfold aftV; rw [if_neg c1, if_neg c2])))))))
theorem specPV0 (W : List IWrite) (cs : Int) (hW : W.length ≤ 1048576) : ∀ (rest pre : List IWrite) (L : List IVersion), W = pre ++ rest → L.length + rest.length ≤ 2097152 → Ev (fun k => spec_PutVersions.l0 k W cs L (pre.length : Int)) (putsV cs rest L)
  | [], pre, L, e, hL => by
    refine ev_step ?_
    simp only [spec_PutVersions.l0, putsV]
    exact ev_neg (by rw [e]; simp) (Ev.now _)
  | x :: rest, pre, L, e, hL => by
    rw [List.length_cons] at hL
    have hg : rd_T42 W (pre.length : Int) = x := by unfold rd_T42; rw [Int.toNat_natCast, e, getD_mid]
    have hlt : (pre.length : Int) < (W.length : Int) := by rw [e]; exact len_mid _ _ _
    have ih := specPV0 W cs hW rest (pre ++ [x]) (insV ⟨x.f0, x.f1, x.f2, cs⟩ L) (by simp [e]) (by rw [insV_len]; omega)
    rw [List.length_append, List.length_singleton] at ih
    refine ev_step ?_
    simp only [spec_PutVersions.l0, putsV]
    rw [hg]
    exact ev_pos hlt (ev_pos (by omega) (specPV1 W cs hW pre.length (by omega) ⟨x.f0, x.f1, x.f2, cs⟩ L (by omega) _ L [] rfl ih))
theorem spec_putsV (W : List IWrite) (cs : Int) (hW : W.length ≤ 1048576) (L : List IVersion) (hL : L.length ≤ 1048576) : Ev (fun k => spec_PutVersions.f k L W cs) (putsV cs W L) := by
  unfold spec_PutVersions.f
  exact ev_cbind rfl (ev_pos (by simp; omega) (specPV0 W cs hW W [] L rfl (by omega)))
theorem sameV0 (O : List IVersion) (hO : O.length ≤ 2097152) : ∀ (m j : Nat), j + m = O.length → Ev (fun k => laws_sameVersions.l0 k O O (j : Int)) true
  | 0, j, e => by
    refine ev_step ?_
    simp only [laws_sameVersions.l0]
    exact ev_neg (by omega) (Ev.now _)
  | m + 1, j, e => by
    refine ev_step ?_
    simp only [laws_sameVersions.l0]
    rw [next64 _ (by omega)]
    exact ev_pos (by omega) (ev_pos (by omega) (ev_pos (by omega) (ev_neg (by simp) (sameV0 O hO m (j + 1) (by omega)))))
theorem sameV (O : List IVersion) (hO : O.length ≤ 2097152) : Ev (fun k => laws_sameVersions.f k O O) true := by
  unfold laws_sameVersions.f
  exact ev_pos rfl (sameV0 O hO O.length 0 (by omega))
theorem one_ok : Ev (fun k => impl_VersionsOk.f k [(⟨(⟨#[97]⟩ : ByteArray), (⟨#[]⟩ : ByteArray), false, 1⟩ : IVersion)]) true := by
  unfold impl_VersionsOk.f
  refine ev_step ?_
  simp only [impl_VersionsOk.l0]
  refine ev_pos (by show (0 : Int) < 1; decide) (ev_pos (by decide) (ev_pos (by show (0 : Int) < 1; decide) (ev_bind (key_good _ (by show (⟨#[97]⟩ : ByteArray) ∈ keysL; simp [keysL])) (ev_pos rfl (ev_neg (by show ¬ (0 : Int) > 12; decide) (ev_neg (by show ¬ false = true; decide) (ev_cbind (within_val _ _ _) (ev_pos (by show decide ((1 : Int) ≤ 1 ∧ (1 : Int) ≤ 9999) = true; decide) (ev_neg (by decide) ?_)))))))))
  rw [show wrap64 ((0 : Int) + 1) = 1 from by rw [w64 (by omega) (by omega)]; rfl]
  refine ev_step ?_
  simp only [impl_VersionsOk.l0]
  exact ev_neg (by show ¬ (1 : Int) < 1; decide) (ev_now (by show decide ((1 : Int) ≤ 120) = true; decide))

/-! versions are drawn -/
theorem rd_small (L : List IVersion) (h : SmallV L) (j : Int) : (rd_T57 L j).f0.size ≤ 140737488351232 := by
  unfold rd_T57
  rw [List.getD_eq_getElem?_getD]
  cases q : L[j.toNat]? with
  | none => show 0 ≤ _; omega
  | some x => exact h x (List.mem_of_getElem? q)
theorem set_small (L : List IVersion) (h : SmallV L) (n : Nat) (v : IVersion) (hv : v.f0.size ≤ 140737488351232) : SmallV (L.set n v) := fun x hx => by
  rcases List.mem_or_eq_of_mem_set hx with h2 | rfl
  · exact h x h2
  · exact hv
theorem draw_versions0 (b : List Int) (hb : b.length ≤ 1048576) : ∀ (m j : Nat) (l : List IVersion) (i h : Int), j + m = 8 → l.length ≤ 4 * j → SmallV l → CurOk b i → ∃ L i' h', Ev (fun k => spec_l06Versions.l0 k l (j : Int) b i h) (L, i', h') ∧ (L.length ≤ 32 ∧ SmallV L) ∧ CurOk b i'
  | m, j, l, i, h, e, hl, hs, g => by
    obtain ⟨r, i1, h1, e1, q1, q2, _, g1⟩ := draw_below b i h 8 hb g
    have q3 := q2 (by decide)
    by_cases c : (j : Int) < r
    · cases m with
      | zero => omega
      | succ m =>
        obtain ⟨W, i2, h2, e2, ⟨w1, w2, w3⟩, g2⟩ := draw_writes b i1 h1 hb g1
        have e4 := spec_putsV W ((j + 1 : Nat) : Int) (by omega) l (by omega)
        have hl2 := putsV_len ((j + 1 : Nat) : Int) W l
        obtain ⟨L, i', h', e3, hL, g3⟩ := draw_versions0 b hb m (j + 1) (putsV ((j + 1 : Nat) : Int) W l) i2 h2 (by omega) (by omega) (putsV_small _ W l (fun x hx => keys_small x.f0 (w3 x hx).1) hs) g2
        refine ⟨L, i', h', ev_step ?_, hL, g3⟩
        simp only [spec_l06Versions.l0]
        rw [next64 _ (by omega)]
        exact ev_cbind e1 (ev_pos c (ev_bind e2 (ev_bind e4 e3)))
    · refine ⟨l, i1, h1, ev_step ?_, ⟨by omega, hs⟩, g1⟩
      simp only [spec_l06Versions.l0]
      exact ev_cbind e1 (ev_neg c (Ev.now _))
theorem draw_versions (b : List Int) (i h : Int) (hb : b.length ≤ 1048576) (g : CurOk b i) : ∃ L i' h', Ev (fun k => spec_l06Versions.f k b i h) (L, i', h') ∧ (L.length ≤ 32 ∧ SmallV L) ∧ CurOk b i' := draw_versions0 b hb 8 0 [] i h rfl (Nat.le_refl _) (fun x hx => by cases hx) g
theorem draw_anyV (b : List Int) (i h : Int) (hb : b.length ≤ 1048576) (g : CurOk b i) : ∃ L i' h', Ev (fun k => spec_l06Any.f k b i h) (L, i', h') ∧ (L.length ≤ 32 ∧ SmallV L) ∧ CurOk b i' := by
  unfold spec_l06Any.f
  obtain ⟨c, i1, h1, e1, q1, q2, _, g1⟩ := draw_below b i h 10 hb g
  obtain ⟨x, i2, h2, e2, p1, p2, _, g2⟩ := draw_below b i1 h1 60 hb g1
  obtain ⟨L, i3, h3, e3, ⟨l1, l2⟩, g3⟩ := draw_versions b i2 h2 hb g2
  have hx : 0 ≤ x := p1
  by_cases z : (L.length : Int) > 0
  · have t1 : 0 ≤ Int.tmod x (L.length : Int) := Int.tmod_nonneg _ hx
    have t2 : Int.tmod x (L.length : Int) < (L.length : Int) := Int.tmod_lt_of_pos _ z
    by_cases c0 : c = 0
    · have s1 : 0 ≤ Int.tmod x 4 := Int.tmod_nonneg _ hx
      have s2 : Int.tmod x 4 < 4 := Int.tmod_lt_of_pos _ (by decide)
      exact ⟨_, _, _, ev_cbind e1 (ev_cbind e2 (ev_cbind rfl (ev_bind e3 (ev_pos (by simp; omega) (ev_cbind rfl (ev_pos z (ev_neg (by show ¬ (L.length : Int) = 0; omega) (ev_pos c0 (ev_cbind rfl (ev_pos s1 (ev_pos s2 (ev_pos t1 (ev_pos t2 (Ev.now _)))))))))))))), ⟨by rw [List.length_set]; exact l1, set_small _ l2 _ _ (rd_small _ l2 _)⟩, g3⟩
    by_cases c1 : c = 1
    · have s1 : 0 ≤ Int.tmod x 3 := Int.tmod_nonneg _ hx
      have s2 : Int.tmod x 3 < 3 := Int.tmod_lt_of_pos _ (by decide)
      refine ⟨_, _, _, ev_cbind e1 (ev_cbind e2 (ev_cbind rfl (ev_bind e3 (ev_pos (by simp; omega) (ev_cbind rfl (ev_pos z (ev_neg (by show ¬ (L.length : Int) = 0; omega) (ev_neg c0 (ev_pos c1 (ev_cbind rfl (ev_pos s1 (ev_pos s2 (ev_pos t1 (ev_pos t2 (Ev.now _))))))))))))))), ⟨by rw [List.length_set]; exact l1, set_small _ l2 _ _ ?_⟩, g3⟩
      show (rdOf ByteArray.empty _ _).size ≤ _
      unfold rdOf
      rw [List.getD_eq_getElem?_getD]
      have hn : (Int.tmod x 3).toNat = 0 ∨ (Int.tmod x 3).toNat = 1 ∨ (Int.tmod x 3).toNat = 2 := by omega
      rcases hn with hn | hn | hn <;> rw [hn]
      · show 0 ≤ _; omega
      · show 1 ≤ _; omega
      · show 1 ≤ _; omega
    by_cases c2 : c = 2
    · exact ⟨_, _, _, ev_cbind e1 (ev_cbind e2 (ev_cbind rfl (ev_bind e3 (ev_pos (by simp; omega) (ev_cbind rfl (ev_pos z (ev_neg (by show ¬ (L.length : Int) = 0; omega) (ev_neg c0 (ev_neg c1 (ev_pos c2 (ev_pos t1 (ev_pos t2 (Ev.now _))))))))))))), ⟨by rw [List.length_set]; exact l1, set_small _ l2 _ _ (rd_small _ l2 _)⟩, g3⟩
    by_cases c3 : c = 3
    · have e4 := long_ok 13 97 (by omega)
      exact ⟨_, _, _, ev_cbind e1 (ev_cbind e2 (ev_cbind rfl (ev_bind e3 (ev_pos (by simp; omega) (ev_cbind rfl (ev_pos z (ev_neg (by show ¬ (L.length : Int) = 0; omega) (ev_neg c0 (ev_neg c1 (ev_neg c2 (ev_pos c3 (ev_bind e4 (ev_pos t1 (ev_pos t2 (Ev.now _))))))))))))))), ⟨by rw [List.length_set]; exact l1, set_small _ l2 _ _ (rd_small _ l2 _)⟩, g3⟩
    · exact ⟨_, _, _, ev_cbind e1 (ev_cbind e2 (ev_cbind rfl (ev_bind e3 (ev_pos (by simp; omega) (ev_cbind rfl (ev_pos z (ev_neg (by show ¬ (L.length : Int) = 0; omega) (ev_neg c0 (ev_neg c1 (ev_neg c2 (ev_neg c3 (Ev.now _)))))))))))), ⟨l1, l2⟩, g3⟩
  · exact ⟨_, _, _, ev_cbind e1 (ev_cbind e2 (ev_cbind rfl (ev_bind e3 (ev_pos (by simp; omega) (ev_cbind rfl (ev_neg z (Ev.now _))))))), ⟨l1, l2⟩, g3⟩
theorem draw_many (b : List Int) (hb : b.length ≤ 1048576) : ∀ (m j : Nat) (l : List IVersion) (i h : Int), j + m = 121 → l.length ≤ j → SmallV l → CurOk b i → ∃ T, Ev (fun k => spec_DrawVersionsOk.l0 k l (j : Int) b i h) T ∧ T.length ≤ 121 ∧ SmallV T
  | m, j, l, i, h, e, hl, hs, g => by
    obtain ⟨r, i1, h1, e1, q1, q2, _, g1⟩ := draw_below b i h 2 hb g
    have q3 := q2 (by decide)
    have hw : wrap64 (120 + r) = 120 + r := w64 (by omega) (by omega)
    by_cases c : (j : Int) < 120 + r
    · cases m with
      | zero => omega
      | succ m =>
        obtain ⟨T, e3, hT⟩ := draw_many b hb m (j + 1) (l ++ [(⟨(⟨#[97]⟩ : ByteArray), (⟨#[]⟩ : ByteArray), false, ((j + 1 : Nat) : Int)⟩ : IVersion)]) i1 h1 (by omega) (by simp; omega) (fun x hx => by
          rcases List.mem_append.1 hx with hx | hx
          · exact hs x hx
          · rw [List.mem_singleton] at hx; subst hx; show 1 ≤ _; omega) g1
        refine ⟨T, ev_step ?_, hT⟩
        simp only [spec_DrawVersionsOk.l0]
        rw [next64 _ (by omega)]
        refine ev_cbind e1 ?_
        show Ev (fun k => if (j : Int) < wrap64 (120 + r) then _ else _) _
        rw [hw]
        exact ev_pos c (ev_pos (by omega) e3)
    · refine ⟨l, ev_step ?_, by omega, hs⟩
      simp only [spec_DrawVersionsOk.l0]
      refine ev_cbind e1 ?_
      show Ev (fun k => if (j : Int) < wrap64 (120 + r) then _ else _) _
      rw [hw]
      exact ev_neg c (Ev.now _)
theorem draw_vok (b : List Int) (hb : b.length ≤ 1048576) : ∃ T, Ev (fun k => spec_DrawVersionsOk.f k b) T ∧ T.length ≤ 121 ∧ SmallV T := by
  obtain ⟨h0, e0⟩ := draw_new b hb
  obtain ⟨L, i1, h1, e1, ⟨l1, l2⟩, g1⟩ := draw_anyV b 0 h0 hb (cur0 b)
  obtain ⟨r, i2, h2, e2, g2⟩ := draw_once b i1 h1 12 hb g1
  unfold spec_DrawVersionsOk.f
  by_cases c : r = true
  · obtain ⟨T, e3, hT⟩ := draw_many b hb 121 0 [] i2 h2 rfl (Nat.le_refl _) (fun x hx => by cases hx) g2
    exact ⟨T, ev_bind e0 (ev_bind e1 (ev_cbind e2 (ev_pos c e3))), hT⟩
  · exact ⟨L, ev_bind e0 (ev_bind e1 (ev_cbind e2 (ev_neg c (Ev.now _)))), by omega, l2⟩
theorem versions_told (b : List Int) (hb : b.length ≤ 1048576) : Ev (fun k => laws_FnVersionsTold.f k b) true := by
  obtain ⟨T, t1, t2, t3⟩ := draw_vok b hb
  obtain ⟨h0, e0⟩ := draw_new b hb
  obtain ⟨W, i1, h1, e1, ⟨w1, w2, w3⟩, g1⟩ := draw_writes b 0 h0 hb (cur0 b)
  obtain ⟨cs, i2, h2, e2, _, _, _, g2⟩ := draw_below b i1 h1 12 hb g1
  obtain ⟨L, i3, h3, e3, ⟨l1, l2⟩, _⟩ := draw_anyV b i2 h2 hb g2
  have d1 : Ev (fun k => spec_DrawPutVersions.f k b) (L, W, cs) := by
    unfold spec_DrawPutVersions.f
    exact ev_bind e0 (ev_bind e1 (ev_cbind e2 (ev_bind e3 (Ev.now _))))
  obtain ⟨r, a1, a2⟩ := versionsOk_both T (by omega) t3
  have p1 := impl_putsV W cs (by omega) L (by omega)
  have p2 := spec_putsV W cs (by omega) L (by omega)
  have p3 := sameV (putsV cs W L) (by rw [putsV_len]; omega)
  unfold laws_FnVersionsTold.f
  exact ev_cbind (a := false) (by unfold laws_big.f; rw [decide_eq_false (by omega)]) (ev_neg (by decide) (ev_bind t1 (ev_bind d1 (ev_bind a2 (ev_bind a1 (ev_pos (beq_self_eq_true _) (ev_bind p1 (ev_bind p2 (ev_bind p3 (ev_pos rfl (ev_bind one_ok (Ev.now _))))))))))))

theorem holds : laws_FnVersionsTold.Pure := by
  intro l0 _ h _
  by_cases c : l0.length ≤ 1048576
  · exact ev_at (versions_told l0 c)
  · refine ⟨0, ?_⟩
    unfold laws_FnVersionsTold.f laws_big.f
    rw [Option.bind_some, decide_eq_true (by omega)]
    rfl
end Go.Proofs.Ytjadloppdbhpiaa.QFnVersionsTold
namespace Go.Proofs.Ytjadloppdbhpiaa.Pure
theorem FnVersionsTold : QFnVersionsTold.laws_FnVersionsTold.Pure := QFnVersionsTold.holds
end Go.Proofs.Ytjadloppdbhpiaa.Pure
