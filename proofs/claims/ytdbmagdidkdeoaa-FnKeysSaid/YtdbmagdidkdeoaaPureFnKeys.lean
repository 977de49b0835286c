/- The law FnKeys answers true at every draw. Conditions: the draw's length as the row gives it. -/
import Derived.Test.YtdbmagdidkdeoaaQFnKeysx5
import Derived.Test.YtdbmagdidkdeoaaAid
namespace Go.Proofs.Ytdbmagdidkdeoaa.QFnKeys
open Go.RowKit Go.Proofs.Ytdbmagdidkdeoaa Go.Proofs.YtdbmagdidkdeoaaW.PrintWords Go.Proofs.YtdbmagdidkdeoaaW.PrintLast Go.Proofs.Ytdbmagdidkdeoaa.Aid
set_option linter.unusedVariables false
abbrev IRange := S35
abbrev IWrite := S44
/-- Both answers on keys, from a place on. -/
theorem keyOk_l (s : ByteArray) (hs : s.size ≤ 140737488351232) : ∀ (d i : Nat), i + d = s.size → ∃ r, Ev (fun k => spec_KeyOk.l0 k s i) r ∧ Ev (fun k => impl_KeyOk.l0 k s i) r := by
  intro d
  induction d with
  | zero =>
    intro i hi
    obtain ⟨v, hv⟩ : ∃ v, impl_within.f (s.size : Int) 1 3 = some v := by unfold impl_within.f; split <;> exact ⟨_, rfl⟩
    have hv2 : spec_l01In.f (s.size : Int) 1 3 = some v := hv
    refine ⟨v, ev_step ?_, ev_step ?_⟩
    · simp only [spec_KeyOk.l0]
      exact ev_neg (by omega) (ev_cbind hv2 (Ev.now _))
    · simp only [impl_KeyOk.l0]
      exact ev_neg (by omega) (ev_cbind hv (Ev.now _))
  | succ d ih =>
    intro i hi
    by_cases h1 : bt s i < 97
    · refine ⟨false, ev_step ?_, ev_step ?_⟩
      · simp only [spec_KeyOk.l0]
        exact ev_pos (by omega) (ev_pos (by omega) (ev_pos h1 (Ev.now _)))
      · simp only [impl_KeyOk.l0]
        exact ev_pos (by omega) (ev_pos (by omega) (ev_pos h1 (Ev.now _)))
    · by_cases h2 : bt s i > 122
      · refine ⟨false, ev_step ?_, ev_step ?_⟩
        · simp only [spec_KeyOk.l0]
          exact ev_pos (by omega) (ev_pos (by omega) (ev_neg h1 (ev_pos h2 (Ev.now _))))
        · simp only [impl_KeyOk.l0]
          exact ev_pos (by omega) (ev_pos (by omega) (ev_neg h1 (ev_pos h2 (Ev.now _))))
      · obtain ⟨r, e1, e2⟩ := ih (i + 1) (by omega)
        have e : wrap64 ((i : Int) + 1) = ((i + 1 : Nat) : Int) := by rw [w64 (by omega) (by omega)]; omega
        refine ⟨r, ev_step ?_, ev_step ?_⟩
        · simp only [spec_KeyOk.l0]
          refine ev_pos (by omega) (ev_pos (by omega) (ev_neg h1 (ev_neg h2 ?_)))
          rw [e]; exact e1
        · simp only [impl_KeyOk.l0]
          refine ev_pos (by omega) (ev_pos (by omega) (ev_neg h1 (ev_neg h2 ?_)))
          rw [e]; exact e2
theorem keyOk_both (s : ByteArray) (hs : s.size ≤ 140737488351232) : ∃ r, Ev (fun k => spec_KeyOk.f k s) r ∧ Ev (fun k => impl_KeyOk.f k s) r := keyOk_l s hs s.size 0 (by omega)

theorem rangeOk_both (a b : ByteArray) (ha : a.size ≤ 140737488351232) (hb : b.size ≤ 140737488351232) : ∃ r, Ev (fun k => spec_RangeOk.f k a b) r ∧ Ev (fun k => impl_RangeOk.f k a b) r := by
  obtain ⟨r1, e1, f1⟩ := keyOk_both a ha
  obtain ⟨r2, e2, f2⟩ := keyOk_both b hb
  unfold spec_RangeOk.f impl_RangeOk.f
  cases r1 with
  | false => exact ⟨false, ev_bind e1 (ev_neg (by simp) (Ev.now _)), ev_bind f1 (ev_neg (by simp) (Ev.now _))⟩
  | true =>
    cases r2 with
    | false => exact ⟨false, ev_bind e1 (ev_pos rfl (ev_bind e2 (ev_neg (by simp) (Ev.now _)))), ev_bind f1 (ev_pos rfl (ev_bind f2 (ev_neg (by simp) (Ev.now _))))⟩
    | true => exact ⟨_, ev_bind e1 (ev_pos rfl (ev_bind e2 (ev_pos rfl (Ev.now _)))), ev_bind f1 (ev_pos rfl (ev_bind f2 (ev_pos rfl (Ev.now _))))⟩

def inRangeM (f t k : ByteArray) : Bool := !(Op.bytesLess k.toList f.toList) && !(Op.bytesLess t.toList k.toList)
theorem impl_inRange (f t k : ByteArray) : impl_InRange.f f t k = some (inRangeM f t k) := by
  unfold impl_InRange.f inRangeM
  by_cases c : Op.bytesLess k.toList f.toList = true
  · rw [if_pos c, c]; rfl
  · rw [if_neg c]; rw [Bool.not_eq_true] at c; rw [c]; rfl

theorem impl_Touches_l1 (a : List IRange) (b : List IWrite) (hb : b.length ≤ 1048576) (r : Bool) (i : Nat) (x : IRange) : ∀ (rest pre : List IWrite), b = pre ++ rest → Ev (fun k => impl_Touches.l0 k b a (a.length : Int) (wrap64 ((i : Int) + 1))) r →
    Ev (fun k => impl_Touches.l1 k b a (a.length : Int) (i : Int) b (b.length : Int) (pre.length : Int) x.f0 x.f1) (rest.any (fun y => inRangeM x.f0 x.f1 y.f0) || r) := by
  intro rest
  induction rest with
  | nil =>
    intro pre e h
    refine ev_step ?_
    simp only [impl_Touches.l1]
    exact ev_neg (by rw [e]; simp) h
  | cons y rest ih =>
    intro pre e h
    have hg : rd_T44 b (pre.length : Int) = y := by unfold rd_T44; rw [Int.toNat_natCast, e, getD_mid]
    have hlt : (pre.length : Int) < (b.length : Int) := by rw [e]; exact len_mid _ _ _
    have h2 := ih (pre ++ [y]) (by simp [e]) h
    rw [List.length_append, List.length_singleton] at h2
    refine ev_step ?_
    simp only [impl_Touches.l1]
    rw [hg, next64 pre.length (by omega), List.any_cons]
    refine ev_pos hlt (ev_pos (by omega) (ev_pos hlt ?_))
    refine ev_cbind (impl_inRange _ _ _) ?_
    by_cases c : inRangeM x.f0 x.f1 y.f0 = true
    · rw [c]; exact ev_pos rfl (Ev.now _)
    · rw [Bool.not_eq_true] at c; rw [c]; exact ev_neg (by simp) h2
theorem impl_Touches_l0 (a : List IRange) (b : List IWrite) (ha : a.length ≤ 1048576) (hb : b.length ≤ 1048576) : ∀ (rest pre : List IRange), a = pre ++ rest → Ev (fun k => impl_Touches.l0 k b a (a.length : Int) (pre.length : Int)) (rest.any fun x => b.any fun y => inRangeM x.f0 x.f1 y.f0) := by
  intro rest
  induction rest with
  | nil =>
    intro pre e
    refine ev_step ?_
    simp only [impl_Touches.l0]
    exact ev_neg (by rw [e]; simp) (Ev.now _)
  | cons x rest ih =>
    intro pre e
    have hg : rd_T35 a (pre.length : Int) = x := by unfold rd_T35; rw [Int.toNat_natCast, e, getD_mid]
    have hlt : (pre.length : Int) < (a.length : Int) := by rw [e]; exact len_mid _ _ _
    have h2 := ih (pre ++ [x]) (by simp [e])
    rw [List.length_append, List.length_singleton] at h2
    refine ev_step ?_
    simp only [impl_Touches.l0]
    rw [hg]
    refine ev_pos hlt (ev_pos (by omega) (ev_pos hlt ?_))
    rw [List.any_cons]
    refine impl_Touches_l1 a b hb _ pre.length x b [] rfl ?_
    rw [next64 _ (by omega)]
    exact h2
theorem impl_Touches_ok (a : List IRange) (b : List IWrite) (ha : a.length ≤ 1048576) (hb : b.length ≤ 1048576) : Ev (fun k => impl_Touches.f k a b) (a.any fun x => b.any fun y => inRangeM x.f0 x.f1 y.f0) := impl_Touches_l0 a b ha hb a [] rfl

/-! two loops, one in the other: Meets -/
theorem spec_Meets_l1 (a : List IWrite) (b : List IWrite) (hb : b.length ≤ 1048576) (r : Bool) (i : Nat) (hi : i < a.length) (x : IWrite) (hx : rd_T44 a (i : Int) = x) : ∀ (rest pre : List IWrite), b = pre ++ rest → Ev (fun k => spec_Meets.l0 k a b (wrap64 ((i : Int) + 1))) r →
    Ev (fun k => spec_Meets.l1 k a b (i : Int) (pre.length : Int)) (rest.any (fun y => decide (x.f0.toList = y.f0.toList)) || r) := by
  intro rest
  induction rest with
  | nil =>
    intro pre e h
    refine ev_step ?_
    simp only [spec_Meets.l1]
    exact ev_neg (by rw [e]; simp) h
  | cons y rest ih =>
    intro pre e h
    have hg : rd_T44 b (pre.length : Int) = y := by unfold rd_T44; rw [Int.toNat_natCast, e, getD_mid]
    have hlt : (pre.length : Int) < (b.length : Int) := by rw [e]; exact len_mid _ _ _
    have h2 := ih (pre ++ [y]) (by simp [e]) h
    rw [List.length_append, List.length_singleton] at h2
    refine ev_step ?_
    simp only [spec_Meets.l1]
    rw [hg, hx, next64 pre.length (by omega), List.any_cons]
    refine ev_pos hlt (ev_pos (by omega) (ev_pos (by omega) (ev_pos (by omega) ?_)))
    by_cases c : x.f0.toList = y.f0.toList
    · rw [decide_eq_true c]; exact ev_pos c (Ev.now _)
    · rw [decide_eq_false c]; exact ev_neg c h2
theorem spec_Meets_l0 (a : List IWrite) (b : List IWrite) (ha : a.length ≤ 1048576) (hb : b.length ≤ 1048576) : ∀ (rest pre : List IWrite), a = pre ++ rest → Ev (fun k => spec_Meets.l0 k a b (pre.length : Int)) (rest.any fun x => b.any fun y => decide (x.f0.toList = y.f0.toList)) := by
  intro rest
  induction rest with
  | nil =>
    intro pre e
    refine ev_step ?_
    simp only [spec_Meets.l0]
    exact ev_neg (by rw [e]; simp) (Ev.now _)
  | cons x rest ih =>
    intro pre e
    have hg : rd_T44 a (pre.length : Int) = x := by unfold rd_T44; rw [Int.toNat_natCast, e, getD_mid]
    have hlt : (pre.length : Int) < (a.length : Int) := by rw [e]; exact len_mid _ _ _
    have h2 := ih (pre ++ [x]) (by simp [e])
    rw [List.length_append, List.length_singleton] at h2
    refine ev_step ?_
    simp only [spec_Meets.l0]
    refine ev_pos hlt ?_
    rw [List.any_cons]
    refine spec_Meets_l1 a b hb _ pre.length (by omega) x hg b [] rfl ?_
    rw [next64 _ (by omega)]
    exact h2
theorem spec_Meets_ok (a : List IWrite) (b : List IWrite) (ha : a.length ≤ 1048576) (hb : b.length ≤ 1048576) : Ev (fun k => spec_Meets.f k a b) (a.any fun x => b.any fun y => decide (x.f0.toList = y.f0.toList)) := spec_Meets_l0 a b ha hb a [] rfl
theorem impl_Meets_l1 (a : List IWrite) (b : List IWrite) (hb : b.length ≤ 1048576) (r : Bool) (i : Nat) (x : IWrite) : ∀ (rest pre : List IWrite), b = pre ++ rest → Ev (fun k => impl_Meets.l0 k b a (a.length : Int) (wrap64 ((i : Int) + 1))) r →
    Ev (fun k => impl_Meets.l1 k b a (a.length : Int) (i : Int) b (b.length : Int) (pre.length : Int) x.f0 x.f1 x.f2) (rest.any (fun y => decide (x.f0.toList = y.f0.toList)) || r) := by
  intro rest
  induction rest with
  | nil =>
    intro pre e h
    refine ev_step ?_
    simp only [impl_Meets.l1]
    exact ev_neg (by rw [e]; simp) h
  | cons y rest ih =>
    intro pre e h
    have hg : rd_T44 b (pre.length : Int) = y := by unfold rd_T44; rw [Int.toNat_natCast, e, getD_mid]
    have hlt : (pre.length : Int) < (b.length : Int) := by rw [e]; exact len_mid _ _ _
    have h2 := ih (pre ++ [y]) (by simp [e]) h
    rw [List.length_append, List.length_singleton] at h2
    refine ev_step ?_
    simp only [impl_Meets.l1]
    rw [hg, next64 pre.length (by omega), List.any_cons]
    refine ev_pos hlt (ev_pos (by omega) (ev_pos hlt ?_))
    by_cases c : x.f0.toList = y.f0.toList
    · rw [decide_eq_true c]; exact ev_pos c (Ev.now _)
    · rw [decide_eq_false c]; exact ev_neg c h2
theorem impl_Meets_l0 (a : List IWrite) (b : List IWrite) (ha : a.length ≤ 1048576) (hb : b.length ≤ 1048576) : ∀ (rest pre : List IWrite), a = pre ++ rest → Ev (fun k => impl_Meets.l0 k b a (a.length : Int) (pre.length : Int)) (rest.any fun x => b.any fun y => decide (x.f0.toList = y.f0.toList)) := by
  intro rest
  induction rest with
  | nil =>
    intro pre e
    refine ev_step ?_
    simp only [impl_Meets.l0]
    exact ev_neg (by rw [e]; simp) (Ev.now _)
  | cons x rest ih =>
    intro pre e
    have hg : rd_T44 a (pre.length : Int) = x := by unfold rd_T44; rw [Int.toNat_natCast, e, getD_mid]
    have hlt : (pre.length : Int) < (a.length : Int) := by rw [e]; exact len_mid _ _ _
    have h2 := ih (pre ++ [x]) (by simp [e])
    rw [List.length_append, List.length_singleton] at h2
    refine ev_step ?_
    simp only [impl_Meets.l0]
    rw [hg]
    refine ev_pos hlt (ev_pos (by omega) (ev_pos hlt ?_))
    rw [List.any_cons]
    refine impl_Meets_l1 a b hb _ pre.length x b [] rfl ?_
    rw [next64 _ (by omega)]
    exact h2
theorem impl_Meets_ok (a : List IWrite) (b : List IWrite) (ha : a.length ≤ 1048576) (hb : b.length ≤ 1048576) : Ev (fun k => impl_Meets.f k a b) (a.any fun x => b.any fun y => decide (x.f0.toList = y.f0.toList)) := impl_Meets_l0 a b ha hb a [] rfl

/-! the drawing's cursor -/
theorem and255 (n : Int) : 0 ≤ Go.bits .and .i64 n 255 ∧ Go.bits .and .i64 n 255 ≤ 255 := by
  have h255 : (BitVec.ofInt 64 255).toNat = 2 ^ 8 - 1 := by decide
  have key : (BitVec.ofInt 64 n &&& BitVec.ofInt 64 255).toNat = (n % ((2 ^ 64 : Nat) : Int)).toNat % 2 ^ 8 := by
    rw [BitVec.toNat_and, BitVec.toNat_ofInt, h255, Nat.and_two_pow_sub_one_eq_mod]
  have e : Go.bits .and .i64 n 255 = n % 256 := by
    show IntKind.i64.wrap ((BitVec.ofInt 64 n &&& BitVec.ofInt 64 255).toNat : Nat) = n % 256
    rw [key, IntKind.wrap_i64]
    omega
  rw [e]
  omega
def CurOk (b : List Int) (i : Int) : Prop := 0 ≤ i ∧ i ≤ (b.length : Int)
theorem draw_byte (b : List Int) (i h : Int) (hb : b.length ≤ 1048576) (hi : CurOk b i) : ∃ r i' h', spec_l01Byte.f b i h = some (r, i', h') ∧ (0 ≤ r ∧ r ≤ 255) ∧ CurOk b i' := by
  unfold spec_l01Byte.f
  by_cases c : i < (b.length : Int)
  · rw [if_pos c, if_pos hi.1]
    refine ⟨_, _, _, rfl, and255 _, ?_⟩
    unfold CurOk at hi ⊢
    rw [w64 (by omega) (by omega)]
    omega
  · rw [if_neg c]
    exact ⟨_, _, _, rfl, and255 _, hi⟩
theorem draw_below (b : List Int) (i h n : Int) (hb : b.length ≤ 1048576) (hi : CurOk b i) : ∃ r i' h', spec_l01Below.f b i h n = some (r, i', h') ∧ 0 ≤ r ∧ (0 < n → r < n) ∧ (n ≤ 0 → r = 0) ∧ CurOk b i' := by
  unfold spec_l01Below.f
  by_cases c : n ≤ 0
  · rw [if_pos c]
    exact ⟨_, _, _, rfl, Int.le_refl _, fun h => by omega, fun _ => rfl, hi⟩
  rw [if_neg c]
  obtain ⟨r1, i1, h1, e1, q1, g1⟩ := draw_byte b i h hb hi
  by_cases c2 : n ≤ 256
  · rw [if_pos c2, e1, Option.bind_some, if_neg (by omega)]
    exact ⟨_, _, _, rfl, Int.tmod_nonneg _ q1.1, fun _ => Int.tmod_lt_of_pos _ (by omega), fun h => by omega, g1⟩
  · rw [if_neg c2]
    obtain ⟨r2, i2, h2, e2, q2, g2⟩ := draw_byte b i1 h1 hb g1
    obtain ⟨r3, i3, h3, e3, q3, g3⟩ := draw_byte b i2 h2 hb g2
    obtain ⟨r4, i4, h4, e4, q4, g4⟩ := draw_byte b i3 h3 hb g3
    simp only [e1, e2, e3, e4, Option.bind_some]
    rw [if_neg (by omega), w64 (x := r1 * 16777216) (by omega) (by omega), w64 (x := r2 * 65536) (by omega) (by omega), w64 (x := r1 * 16777216 + r2 * 65536) (by omega) (by omega), w64 (x := r3 * 256) (by omega) (by omega), w64 (x := r1 * 16777216 + r2 * 65536 + r3 * 256) (by omega) (by omega), w64 (x := r1 * 16777216 + r2 * 65536 + r3 * 256 + r4) (by omega) (by omega)]
    exact ⟨_, _, _, rfl, Int.tmod_nonneg _ (by omega), fun _ => Int.tmod_lt_of_pos _ (by omega), fun h => by omega, g4⟩
theorem draw_new0 (b : List Int) (hb : b.length ≤ 1048576) : ∀ (m j : Nat) (x : Int), j + m = b.length → ∃ h, Ev (fun k => spec_l01New.l0 k b x (j : Int)) (b, 0, h)
  | 0, j, x, e => by
    refine ⟨x, ev_step ?_⟩
    simp only [spec_l01New.l0]
    exact ev_neg (by omega) (Ev.now _)
  | m + 1, j, x, e => by
    by_cases c : (j : Int) < 4000
    · obtain ⟨h, hh⟩ := draw_new0 b hb m (j + 1) (Go.bits .and .i64 (wrap64 ((wrap64 ((wrap64 (x * 131)) + (wrap64 (rd b (j : Int))))) + 7)) 1073741823) (by omega)
      refine ⟨h, ev_step ?_⟩
      simp only [spec_l01New.l0]
      rw [next64 _ (by omega)]
      exact ev_pos (by omega) (ev_pos c (ev_pos (by omega) hh))
    · refine ⟨x, ev_step ?_⟩
      simp only [spec_l01New.l0]
      exact ev_pos (by omega) (ev_neg c (Ev.now _))
theorem draw_new (b : List Int) (hb : b.length ≤ 1048576) : ∃ h, Ev (fun k => spec_l01New.f k b) (b, 0, h) := draw_new0 b hb b.length 0 _ (by omega)
theorem cur0 (b : List Int) : CurOk b 0 := ⟨Int.le_refl _, by omega⟩
theorem strOfNums_size (x : List Int) : (strOfNums x).size = x.length := by
  show (List.map (fun n : Int => UInt8.ofNat n.toNat) x).toArray.size = _
  simp

theorem less_asym (a b : List UInt8) (h : Op.bytesLess a b = true) : Op.bytesLess b a = false := by
  have t := StrCmp.less_total a b
  rw [h, Bool.true_or] at t
  cases hb : Op.bytesLess b a with
  | false => rfl
  | true => rw [hb] at t; cases t
theorem less_irr (a : List UInt8) : Op.bytesLess a a = false := by
  cases h : Op.bytesLess a a with
  | false => rfl
  | true => rw [less_asym a a h] at h; cases h
theorem less_eq (a b : List UInt8) (h1 : Op.bytesLess a b = false) (h2 : Op.bytesLess b a = false) : a = b := by
  have t := StrCmp.less_total a b
  rw [h1, h2, Bool.false_or] at t
  exact eq_of_beq t

theorem draw_once (b : List Int) (i h n : Int) (hb : b.length ≤ 1048576) (hi : CurOk b i) : ∃ r i' h', spec_l01Once.f b i h n = some (r, i', h') ∧ CurOk b i' := by
  unfold spec_l01Once.f
  obtain ⟨r, i1, h1, e1, _, _, _, g1⟩ := draw_below b i h n hb hi
  rw [e1, Option.bind_some]
  exact ⟨_, _, _, rfl, g1⟩
theorem draw_pick (b : List Int) (i h : Int) (l : List ByteArray) (hb : b.length ≤ 1048576) (g : CurOk b i) (h0 : 0 < l.length) : ∃ v i' h', spec_l01Pick.f b i h l = some (v, i', h') ∧ v ∈ l ∧ CurOk b i' := by
  unfold spec_l01Pick.f
  obtain ⟨r, i1, h1, e1, q1, q2, _, g1⟩ := draw_below b i h (l.length : Int) hb g
  have q3 := q2 (by omega)
  rw [e1, Option.bind_some, if_pos q1, if_pos q3]
  refine ⟨_, _, _, rfl, ?_, g1⟩
  unfold rdOf
  have h2 : r.toNat < l.length := by omega
  rw [List.getD_eq_getElem?_getD, List.getElem?_eq_getElem h2, Option.getD_some]
  exact List.getElem_mem h2
def keysL : List ByteArray := [(⟨#[97]⟩ : ByteArray), (⟨#[98]⟩ : ByteArray), (⟨#[99]⟩ : ByteArray), (⟨#[100]⟩ : ByteArray), (⟨#[97, 98]⟩ : ByteArray)]
theorem draw_key (b : List Int) (i h : Int) (hb : b.length ≤ 1048576) (g : CurOk b i) : ∃ v i' h', spec_l05Key.f b i h = some (v, i', h') ∧ v ∈ keysL ∧ CurOk b i' := by
  unfold spec_l05Key.f
  obtain ⟨v, i1, h1, e1, m, g1⟩ := draw_pick b i h keysL hb g (by decide)
  unfold keysL at e1
  rw [e1, Option.bind_some]
  exact ⟨_, _, _, rfl, m, g1⟩
theorem draw_range (b : List Int) (i h : Int) (hb : b.length ≤ 1048576) (g : CurOk b i) : ∃ f t i' h', spec_l05Range.f b i h = some (f, t, i', h') ∧ (f ∈ keysL ∧ t ∈ keysL ∧ Op.bytesLess t.toList f.toList = false) ∧ CurOk b i' := by
  unfold spec_l05Range.f
  obtain ⟨v, i1, h1, e1, m, g1⟩ := draw_key b i h hb g
  obtain ⟨r, i2, h2, e2, g2⟩ := draw_once b i1 h1 2 hb g1
  rw [e1, Option.bind_some, e2, Option.bind_some]
  by_cases c : r = true
  · rw [if_pos c]
    exact ⟨_, _, _, _, rfl, ⟨m, m, less_irr _⟩, g2⟩
  · obtain ⟨v2, i3, h3, e3, m3, g3⟩ := draw_key b i2 h2 hb g2
    rw [if_neg c, e3, Option.bind_some]
    cases c2 : Op.bytesLess v2.toList v.toList with
    | true =>
      exact ⟨v2, v, i3, h3, if_pos rfl, ⟨m3, m, less_asym _ _ c2⟩, g3⟩
    | false =>
      exact ⟨v, v2, i3, h3, if_neg (by decide), ⟨m, m3, c2⟩, g3⟩
theorem draw_ranges0 (b : List Int) (hb : b.length ≤ 1048576) : ∀ (m j : Nat) (l : List IRange) (i h : Int), j + m = 4 → l.length = j → CurOk b i → ∃ R i' h', Ev (fun k => spec_l05Ranges.l0 k l (j : Int) b i h) (R, i', h') ∧ R.length ≤ 4 ∧ CurOk b i'
  | m, j, l, i, h, e, hl, g => by
    obtain ⟨r, i1, h1, e1, q1, q2, _, g1⟩ := draw_below b i h 4 hb g
    have q3 := q2 (by decide)
    by_cases c : (j : Int) < r
    · cases m with
      | zero => omega
      | succ m =>
        obtain ⟨f, t, i2, h2, e2, _, g2⟩ := draw_range b i1 h1 hb g1
        obtain ⟨R, i', h', e3, hR, g3⟩ := draw_ranges0 b hb m (j + 1) (l ++ [(⟨f, t⟩ : IRange)]) i2 h2 (by omega) (by simp [hl]) g2
        refine ⟨R, i', h', ev_step ?_, hR, g3⟩
        simp only [spec_l05Ranges.l0]
        rw [next64 _ (by omega)]
        exact ev_cbind e1 (ev_pos c (ev_cbind e2 (ev_pos (by omega) e3)))
    · refine ⟨l, i1, h1, ev_step ?_, by omega, g1⟩
      simp only [spec_l05Ranges.l0]
      exact ev_cbind e1 (ev_neg c (Ev.now _))
theorem draw_ranges (b : List Int) (i h : Int) (hb : b.length ≤ 1048576) (g : CurOk b i) : ∃ R i' h', Ev (fun k => spec_l05Ranges.f k b i h) (R, i', h') ∧ R.length ≤ 4 ∧ CurOk b i' := draw_ranges0 b hb 4 0 [] i h rfl rfl g
theorem put1 (l : List IWrite) (hl : l.length ≤ 1048576) (a c : ByteArray) (d : Bool) : ∀ (m j : Nat) (acc : List IWrite), j + m = l.length → acc.length ≤ l.length + 1 + j → ∃ r, Ev (fun k => spec_PutWrite.l1 k l acc (j : Int) a c d) r ∧ r.length ≤ 2 * l.length + 1
  | 0, j, acc, e, h => by
    refine ⟨acc, ev_step ?_, by omega⟩
    simp only [spec_PutWrite.l1]
    exact ev_neg (by omega) (Ev.now _)
  | m + 1, j, acc, e, h => by
    by_cases t : Op.bytesLess a.toList ((rd_T44 l (j : Int)).f0.toList) = true
    · obtain ⟨r, e1, e2⟩ := put1 l hl a c d m (j + 1) (acc ++ [(⟨(rd_T44 l (j : Int)).f0, (rd_T44 l (j : Int)).f1, (rd_T44 l (j : Int)).f2⟩ : IWrite)]) (by omega) (by simp; omega)
      refine ⟨r, ev_step ?_, e2⟩
      simp only [spec_PutWrite.l1]
      rw [next64 _ (by omega)]
      exact ev_pos (by omega) (ev_pos (by omega) (ev_pos t (ev_pos (by omega) e1)))
    · obtain ⟨r, e1, e2⟩ := put1 l hl a c d m (j + 1) acc (by omega) (by omega)
      refine ⟨r, ev_step ?_, e2⟩
      simp only [spec_PutWrite.l1]
      rw [next64 _ (by omega)]
      exact ev_pos (by omega) (ev_pos (by omega) (ev_neg t e1))
theorem put0 (l : List IWrite) (hl : l.length ≤ 1048576) (a c : ByteArray) (d : Bool) : ∀ (m j : Nat) (acc : List IWrite), j + m = l.length → acc.length ≤ j → ∃ r, Ev (fun k => spec_PutWrite.l0 k l acc (j : Int) a c d) r ∧ r.length ≤ 2 * l.length + 1
  | 0, j, acc, e, h => by
    obtain ⟨r, e1, e2⟩ := put1 l hl a c d l.length 0 (acc ++ [(⟨a, c, d⟩ : IWrite)]) (by omega) (by simp; omega)
    refine ⟨r, ev_step ?_, e2⟩
    simp only [spec_PutWrite.l0]
    exact ev_neg (by omega) (ev_pos (by omega) e1)
  | m + 1, j, acc, e, h => by
    by_cases t : Op.bytesLess ((rd_T44 l (j : Int)).f0.toList) a.toList = true
    · obtain ⟨r, e1, e2⟩ := put0 l hl a c d m (j + 1) (acc ++ [(⟨(rd_T44 l (j : Int)).f0, (rd_T44 l (j : Int)).f1, (rd_T44 l (j : Int)).f2⟩ : IWrite)]) (by omega) (by simp; omega)
      refine ⟨r, ev_step ?_, e2⟩
      simp only [spec_PutWrite.l0]
      rw [next64 _ (by omega)]
      exact ev_pos (by omega) (ev_pos (by omega) (ev_pos t (ev_pos (by omega) e1)))
    · obtain ⟨r, e1, e2⟩ := put0 l hl a c d m (j + 1) acc (by omega) (by omega)
      refine ⟨r, ev_step ?_, e2⟩
      simp only [spec_PutWrite.l0]
      rw [next64 _ (by omega)]
      exact ev_pos (by omega) (ev_pos (by omega) (ev_neg t e1))
theorem draw_write (b : List Int) (i h : Int) (hb : b.length ≤ 1048576) (g : CurOk b i) : ∃ x y z i' h', spec_l05Write.f b i h = some (x, y, z, i', h') ∧ CurOk b i' := by
  unfold spec_l05Write.f
  obtain ⟨v, i1, h1, e1, _, g1⟩ := draw_key b i h hb g
  obtain ⟨v2, i2, h2, e2, _, g2⟩ := draw_pick b i1 h1 [(⟨#[111, 110, 101]⟩ : ByteArray), (⟨#[116, 119, 111]⟩ : ByteArray), (⟨#[]⟩ : ByteArray), (⟨#[120, 0]⟩ : ByteArray)] hb g1 (by decide)
  obtain ⟨r, i3, h3, e3, g3⟩ := draw_once b i2 h2 5 hb g2
  rw [e1, Option.bind_some, e2, Option.bind_some, e3, Option.bind_some]
  by_cases c : r = true
  · rw [if_pos c]
    exact ⟨_, _, _, _, _, rfl, g3⟩
  · rw [if_neg c]
    exact ⟨_, _, _, _, _, rfl, g3⟩
theorem draw_writes0 (b : List Int) (hb : b.length ≤ 1048576) : ∀ (m j : Nat) (l : List IWrite) (i h : Int), j + m = 4 → l.length + 1 ≤ 2 ^ j → CurOk b i → ∃ W i' h', Ev (fun k => spec_l05Writes.l0 k l (j : Int) b i h) (W, i', h') ∧ W.length ≤ 16 ∧ CurOk b i'
  | m, j, l, i, h, e, hl, g => by
    obtain ⟨r, i1, h1, e1, q1, q2, _, g1⟩ := draw_below b i h 4 hb g
    have q3 := q2 (by decide)
    have hp : 2 ^ j ≤ 16 := Nat.pow_le_pow_right (n := 2) (by decide) (show j ≤ 4 by omega)
    by_cases c : (j : Int) < r
    · cases m with
      | zero => omega
      | succ m =>
        obtain ⟨x, y, z, i2, h2, e2, g2⟩ := draw_write b i1 h1 hb g1
        obtain ⟨l2, e4, hl2⟩ := put0 l (by omega) x y z l.length 0 [] (by omega) (by simp)
        obtain ⟨W, i', h', e3, hW, g3⟩ := draw_writes0 b hb m (j + 1) l2 i2 h2 (by omega) (by rw [Nat.pow_succ]; omega) g2
        refine ⟨W, i', h', ev_step ?_, hW, g3⟩
        simp only [spec_l05Writes.l0]
        rw [next64 _ (by omega)]
        exact ev_cbind e1 (ev_pos c (ev_cbind e2 (ev_bind e4 e3)))
    · refine ⟨l, i1, h1, ev_step ?_, by omega, g1⟩
      simp only [spec_l05Writes.l0]
      exact ev_cbind e1 (ev_neg c (Ev.now _))
theorem draw_writes (b : List Int) (i h : Int) (hb : b.length ≤ 1048576) (g : CurOk b i) : ∃ W i' h', Ev (fun k => spec_l05Writes.f k b i h) (W, i', h') ∧ W.length ≤ 16 ∧ CurOk b i' := draw_writes0 b hb 4 0 [] i h rfl (by simp) g
theorem within_val (a b c : Int) : impl_within.f a b c = some (decide (b ≤ a ∧ a ≤ c)) := by
  unfold impl_within.f
  by_cases h : a ≥ b
  · rw [if_pos h]; congr 1; exact decide_eq_decide.2 ⟨fun h2 => ⟨h, h2⟩, fun h2 => h2.2⟩
  · rw [if_neg h, decide_eq_false (fun h2 => h h2.1)]
theorem key_good0 (s : ByteArray) (h1 : 1 ≤ s.size) (h2 : s.size ≤ 3) (hb : ∀ i : Nat, i < s.size → 97 ≤ bt s (i : Int) ∧ bt s (i : Int) ≤ 122) : ∀ (m j : Nat), j + m = s.size → Ev (fun k => impl_KeyOk.l0 k s (j : Int)) true
  | 0, j, e => by
    refine ev_step ?_
    simp only [impl_KeyOk.l0]
    rw [within_val, decide_eq_true (by omega)]
    exact ev_neg (by omega) (ev_cbind rfl (Ev.now _))
  | m + 1, j, e => by
    have h := hb j (by omega)
    refine ev_step ?_
    simp only [impl_KeyOk.l0]
    rw [next64 _ (by omega)]
    exact ev_pos (by omega) (ev_pos (by omega) (ev_neg (by omega) (ev_neg (by omega) (key_good0 s h1 h2 hb m (j + 1) (by omega)))))
theorem key_good (s : ByteArray) (h : s ∈ keysL) : Ev (fun k => impl_KeyOk.f k s) true := by
  have hz : (1 ≤ s.size ∧ s.size ≤ 3) ∧ ∀ i : Nat, i < s.size → 97 ≤ bt s (i : Int) ∧ bt s (i : Int) ≤ 122 := by
    unfold keysL at h
    simp only [List.mem_cons, List.not_mem_nil, or_false] at h
    have one : ∀ c : UInt8, 97 ≤ c.toNat ∧ c.toNat ≤ 122 → ((1 ≤ (⟨#[c]⟩ : ByteArray).size ∧ (⟨#[c]⟩ : ByteArray).size ≤ 3) ∧ ∀ i : Nat, i < (⟨#[c]⟩ : ByteArray).size → 97 ≤ bt ⟨#[c]⟩ (i : Int) ∧ bt ⟨#[c]⟩ (i : Int) ≤ 122) := fun c hc => by
      refine ⟨⟨Nat.le_refl _, by show 1 ≤ 3; decide⟩, fun i hi => ?_⟩
      have : i = 0 := by have : (⟨#[c]⟩ : ByteArray).size = 1 := rfl; omega
      subst this
      show (97 : Int) ≤ (c.toNat : Int) ∧ (c.toNat : Int) ≤ 122
      omega
    rcases h with rfl | rfl | rfl | rfl | rfl
    · exact one 97 (by decide)
    · exact one 98 (by decide)
    · exact one 99 (by decide)
    · exact one 100 (by decide)
    · refine ⟨⟨by show 1 ≤ 2; decide, by show 2 ≤ 3; decide⟩, fun i hi => ?_⟩
      have h2 : i < 2 := hi
      rcases (show i = 0 ∨ i = 1 by omega) with rfl | rfl
      · show (97 : Int) ≤ 97 ∧ (97 : Int) ≤ 122; decide
      · show (97 : Int) ≤ 98 ∧ (98 : Int) ≤ 122; decide
  unfold impl_KeyOk.f
  exact key_good0 s hz.1.1 hz.1.2 hz.2 s.size 0 (by omega)
theorem keys_small (s : ByteArray) (h : s ∈ keysL) : s.size ≤ 140737488351232 := by
  unfold keysL at h
  simp only [List.mem_cons, List.not_mem_nil, or_false] at h
  rcases h with rfl | rfl | rfl | rfl | rfl
  · show 1 ≤ _; decide
  · show 1 ≤ _; decide
  · show 1 ≤ _; decide
  · show 1 ≤ _; decide
  · show 2 ≤ _; decide
theorem range_good (f t : ByteArray) (hf : f ∈ keysL) (ht : t ∈ keysL) (h : Op.bytesLess t.toList f.toList = false) : Ev (fun k => impl_RangeOk.f k f t) true := by
  unfold impl_RangeOk.f
  exact ev_bind (key_good f hf) (ev_pos rfl (ev_bind (key_good t ht) (ev_pos rfl (ev_now (by rw [h]; rfl)))))
theorem keys1 (b : List Int) (key : ByteArray) (A : List IRange) (B : List IWrite) (hA : A.length ≤ 1048576) (hB : B.length ≤ 1048576) (f t f2 t2 : ByteArray) (i : Nat) (hi : i < A.length) (x : IRange) (hx : rd_T35 A (i : Int) = x) : ∀ (rest pre : List IWrite) (s : Bool), B = pre ++ rest →
    Ev (fun k => laws_FnKeys.l0 k b key A B (s || rest.any fun y => inRangeM x.f0 x.f1 y.f0) ((i + 1 : Nat) : Int) f t f2 t2) true → Ev (fun k => laws_FnKeys.l1 k b key A B s (i : Int) (pre.length : Int) f t f2 t2) true
  | [], pre, s, e, h => by
    refine ev_step ?_
    simp only [laws_FnKeys.l1]
    rw [next64 i (by omega)]
    rw [List.any_nil, Bool.or_false] at h
    exact ev_neg (by rw [e]; simp) h
  | y :: rest, pre, s, e, h => by
    have hg : rd_T44 B (pre.length : Int) = y := by unfold rd_T44; rw [Int.toNat_natCast, e, getD_mid]
    have hlt : (pre.length : Int) < (B.length : Int) := by rw [e]; exact len_mid _ _ _
    have ih := fun s' => keys1 b key A B hA hB f t f2 t2 i hi x hx rest (pre ++ [y]) s' (by simp [e])
    rw [List.any_cons, ← Bool.or_assoc] at h
    refine ev_step ?_
    simp only [laws_FnKeys.l1]
    rw [hg, hx, next64 _ (by omega)]
    have ih2 := fun s' h' => ih s' h'
    simp only [List.length_append, List.length_singleton] at ih2
    cases s with
    | true => exact ev_pos hlt (ev_pos rfl (ih2 true h))
    | false =>
      rw [Bool.false_or] at h
      refine ev_pos hlt (ev_neg (by decide) (ev_pos (by omega) (ev_pos (by omega) (ev_pos (by omega) ?_))))
      unfold inRangeM at h
      by_cases c : Op.bytesLess y.f0.toList x.f0.toList = true
      · refine ev_pos c (ih2 false ?_)
        rw [c, Bool.not_true, Bool.false_and] at h
        exact h
      · have c2 : Op.bytesLess y.f0.toList x.f0.toList = false := by simpa using c
        refine ev_neg c (ih2 _ ?_)
        rw [c2, Bool.not_false, Bool.true_and] at h
        exact h
theorem keys0 (b : List Int) (hb : b.length ≤ 1048576) (key : ByteArray) (A : List IRange) (B : List IWrite) (hA : A.length ≤ 1048576) (hB : B.length ≤ 1048576) (f t f2 t2 : ByteArray) (hf : f ∈ keysL) (ht : t ∈ keysL) (hl : Op.bytesLess t.toList f.toList = false) : ∀ (rest pre : List IRange) (s : Bool), A = pre ++ rest →
    ((s || rest.any fun x => B.any fun y => inRangeM x.f0 x.f1 y.f0) = (A.any fun x => B.any fun y => inRangeM x.f0 x.f1 y.f0)) → Ev (fun k => laws_FnKeys.l0 k b key A B s (pre.length : Int) f t f2 t2) true
  | x :: rest, pre, s, e, h => by
    have hg : rd_T35 A (pre.length : Int) = x := by unfold rd_T35; rw [Int.toNat_natCast, e, getD_mid]
    have hlt : (pre.length : Int) < (A.length : Int) := by rw [e]; exact len_mid _ _ _
    have ih := keys0 b hb key A B hA hB f t f2 t2 hf ht hl rest (pre ++ [x]) (s || B.any fun y => inRangeM x.f0 x.f1 y.f0) (by simp [e]) (by rw [← h, List.any_cons, Bool.or_assoc])
    rw [List.length_append, List.length_singleton] at ih
    refine ev_step ?_
    simp only [laws_FnKeys.l0]
    exact ev_pos hlt (keys1 b key A B hA hB f t f2 t2 pre.length (by omega) x hg B [] s rfl ih)
  | [], pre, s, e, h => by
    rw [List.any_nil, Bool.or_false] at h
    obtain ⟨h0, e0⟩ := draw_new b hb
    obtain ⟨C, i1, h1, e1, hC, g1⟩ := draw_writes b 0 h0 hb (cur0 b)
    obtain ⟨D, i2, h2, e2, hD, g2⟩ := draw_writes b i1 h1 hb g1
    have dm : Ev (fun k => spec_DrawMeets.f k b) (C, D) := by
      unfold spec_DrawMeets.f
      exact ev_bind e0 (ev_bind e1 (ev_bind e2 (Ev.now _)))
    obtain ⟨p, q, dr, hp, hq⟩ : ∃ p q, Ev (fun k => spec_DrawRangeOk.f k b) (p, q) ∧ p.size ≤ 140737488351232 ∧ q.size ≤ 140737488351232 := by
      unfold spec_DrawRangeOk.f
      obtain ⟨x, y, i3, h3, e3, m3, g3⟩ := draw_range b 0 h0 hb (cur0 b)
      obtain ⟨r, i4, h4, e4, _, _, _, g4⟩ := draw_below b i3 h3 5 hb g3
      by_cases c0 : r = 0
      · exact ⟨_, _, ev_bind e0 (ev_cbind e3 (ev_cbind e4 (ev_pos c0 (Ev.now _)))), by show 1 ≤ _; decide, keys_small _ m3.2.1⟩
      · by_cases c1 : r = 1
        · exact ⟨_, _, ev_bind e0 (ev_cbind e3 (ev_cbind e4 (ev_neg c0 (ev_pos c1 (Ev.now _))))), keys_small _ m3.1, by show 0 ≤ _; decide⟩
        · exact ⟨_, _, ev_bind e0 (ev_cbind e3 (ev_cbind e4 (ev_neg c0 (ev_neg c1 (Ev.now _))))), keys_small _ m3.1, keys_small _ m3.2.1⟩
    obtain ⟨z, dk, hz⟩ : ∃ z, Ev (fun k => spec_DrawKeyOk.f k b) z ∧ z.size ≤ 140737488351232 := by
      unfold spec_DrawKeyOk.f
      obtain ⟨v, i3, h3, e3, m3, g3⟩ := draw_pick b 0 h0 [(⟨#[]⟩ : ByteArray), (⟨#[97]⟩ : ByteArray), (⟨#[97, 98, 99]⟩ : ByteArray), (⟨#[97, 98, 99, 100]⟩ : ByteArray), (⟨#[65]⟩ : ByteArray), (⟨#[97, 49]⟩ : ByteArray)] hb (cur0 b) (by decide)
      refine ⟨v, ev_bind e0 (ev_cbind e3 (Ev.now _)), ?_⟩
      simp only [List.mem_cons, List.not_mem_nil, or_false] at m3
      rcases m3 with rfl | rfl | rfl | rfl | rfl | rfl
      · show 0 ≤ _; decide
      · show 1 ≤ _; decide
      · show 3 ≤ _; decide
      · show 4 ≤ _; decide
      · show 1 ≤ _; decide
      · show 2 ≤ _; decide
    have m1 := impl_Meets_ok C D (by omega) (by omega)
    have m2 := impl_Meets_ok D C (by omega) (by omega)
    have m3 := spec_Meets_ok C D (by omega) (by omega)
    have ms : (C.any fun x => D.any fun y => decide (x.f0.toList = y.f0.toList)) = (D.any fun x => C.any fun y => decide (x.f0.toList = y.f0.toList)) := by
      rw [Bool.eq_iff_iff]
      simp only [List.any_eq_true, decide_eq_true_eq]
      constructor
      · rintro ⟨x, hx, y, hy, he⟩; exact ⟨y, hy, x, hx, he.symm⟩
      · rintro ⟨x, hx, y, hy, he⟩; exact ⟨y, hy, x, hx, he.symm⟩
    rw [← ms] at m2
    obtain ⟨v1, o1, o2⟩ := rangeOk_both p q hp hq
    obtain ⟨v2, k1, k2⟩ := keyOk_both z hz
    have tt := impl_Touches_ok A B hA hB
    rw [← h] at tt
    have rg := range_good f t hf ht hl
    have r1 : inRangeM f t f = true := by unfold inRangeM; rw [less_irr, hl]; rfl
    have r2 : inRangeM f t t = true := by unfold inRangeM; rw [less_irr, hl]; rfl
    have tail : Ev (fun k => (impl_Touches.f k A B).bind fun t324 => (if (t324 == s) = true then ((impl_Meets.f k C D).bind fun t325 => ((impl_Meets.f k D C).bind fun t326 => (if (t325 == t326) = true then ((impl_Meets.f k C D).bind fun t327 => ((spec_Meets.f k C D).bind fun t328 => (if (t327 == t328) = true then ((impl_RangeOk.f k p q).bind fun t329 => ((spec_RangeOk.f k p q).bind fun t330 => (if (t329 == t330) = true then ((impl_KeyOk.f k z).bind fun t331 => ((spec_KeyOk.f k z).bind fun t332 => (if (t331 == t332) = true then ((impl_RangeOk.f k f t).bind fun t333 => (some t333)) else (some false)))) else (some false)))) else (some false)))) else (some false)))) else (some false))) true :=
      ev_bind tt (ev_pos (by simp) (ev_bind m1 (ev_bind m2 (ev_pos (by simp) (ev_bind m1 (ev_bind m3 (ev_pos (by simp) (ev_bind o2 (ev_bind o1 (ev_pos (by simp) (ev_bind k2 (ev_bind k1 (ev_pos (by simp) (ev_bind rg (Ev.now _)))))))))))))))
    refine ev_step ?_
    simp only [laws_FnKeys.l0]
    refine ev_neg (by rw [e]; simp) (ev_bind dm (ev_bind dr (ev_bind dk (ev_cbind (impl_inRange f t f) (ev_pos r1 (ev_cbind (impl_inRange f t t) (ev_pos r2 (ev_cbind (impl_inRange f2 t2 key) ?_))))))))
    unfold inRangeM
    by_cases c : Op.bytesLess key.toList f2.toList = true
    · rw [c, Bool.not_true, Bool.false_and]
      exact ev_pos rfl (ev_pos (by decide) tail)
    · have c2 : Op.bytesLess key.toList f2.toList = false := by simpa using c
      rw [c2, Bool.not_false, Bool.true_and]
      exact ev_neg (by decide) (ev_pos (by simp) tail)
theorem keys (b : List Int) (hb : b.length ≤ 1048576) : Ev (fun k => laws_FnKeys.f k b) true := by
  obtain ⟨h0, e0⟩ := draw_new b hb
  obtain ⟨f, t, i1, h1, e1, m1, g1⟩ := draw_range b 0 h0 hb (cur0 b)
  have d1 : Ev (fun k => spec_DrawRange.f k b) (f, t) := by
    unfold spec_DrawRange.f
    exact ev_bind e0 (ev_cbind e1 (Ev.now _))
  obtain ⟨key, i2, h2, e2, m2, g2⟩ := draw_key b 0 h0 hb (cur0 b)
  obtain ⟨f2, t2, i3, h3, e3, m3, g3⟩ := draw_range b i2 h2 hb g2
  have d2 : Ev (fun k => spec_DrawInRange.f k b) (f2, t2, key) := by
    unfold spec_DrawInRange.f
    exact ev_bind e0 (ev_cbind e2 (ev_cbind e3 (Ev.now _)))
  obtain ⟨A, i4, h4, e4, hA, g4⟩ := draw_ranges b 0 h0 hb (cur0 b)
  obtain ⟨B, i5, h5, e5, hB, g5⟩ := draw_writes b i4 h4 hb g4
  have d3 : Ev (fun k => spec_DrawTouches.f k b) (A, B) := by
    unfold spec_DrawTouches.f
    exact ev_bind e0 (ev_bind e4 (ev_bind e5 (Ev.now _)))
  unfold laws_FnKeys.f
  exact ev_cbind (a := false) (by unfold laws_big.f; rw [decide_eq_false (by omega)]) (ev_neg (by decide) (ev_bind d1 (ev_bind d2 (ev_bind d3 (keys0 b hb key A B (by omega) (by omega) f t f2 t2 m1.1 m1.2.1 m1.2.2 A [] false rfl (Bool.false_or _))))))
theorem holds : laws_FnKeys.Pure := by
  intro l0 _ h _
  by_cases c : l0.length ≤ 1048576
  · exact ev_at (keys l0 c)
  · refine ⟨0, ?_⟩
    unfold laws_FnKeys.f laws_big.f
    rw [Option.bind_some, decide_eq_true (by omega)]
    rfl
end Go.Proofs.Ytdbmagdidkdeoaa.QFnKeys
namespace Go.Proofs.Ytdbmagdidkdeoaa.Pure
theorem FnKeys : QFnKeys.laws_FnKeys.Pure := QFnKeys.holds
end Go.Proofs.Ytdbmagdidkdeoaa.Pure
