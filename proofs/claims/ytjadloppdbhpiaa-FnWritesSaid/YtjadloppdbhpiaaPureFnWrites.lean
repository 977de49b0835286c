/- The law FnWrites answers true at every draw. Conditions: the draw's length as the row gives it. -/
import Derived.Test.YtjadloppdbhpiaaQFnWritesx8
import Derived.Test.YtjadloppdbhpiaaAid
import Derived.Test.YtjadloppdbhpiaaStrCmp
namespace Go.Proofs.Ytjadloppdbhpiaa.QFnWrites
open Go.RowKit Go.Proofs.Ytjadloppdbhpiaa Go.Proofs.YtjadloppdbhpiaaW.PrintWords Go.Proofs.YtjadloppdbhpiaaW.PrintLast Go.Proofs.Ytjadloppdbhpiaa.Aid
set_option linter.unusedVariables false
abbrev IWrite := S42
theorem toList_inj' {a b : ByteArray} (h : a.toList = b.toList) : a = b := by
  rw [ByteArray.toList_eq, ByteArray.toList_eq] at h
  exact ByteArray.ext (Array.toList_inj.1 h)

/-! the drawing's cursor -/
theorem and255 (n : Int) : 0 ≤ Go.bits .and .i64 n 255 ∧ Go.bits .and .i64 n 255 ≤ 255 := by
  have h255 : (BitVec.ofInt 64 255).toNat = 2 ^ 8 - 1 := by decide
  have key : (BitVec.ofInt 64 n &&& BitVec.ofInt 64 255).toNat = (n % ((2 ^ 64 : Nat) : Int)).toNat % 2 ^ 8 := by
    rw [BitVec.toNat_and, BitVec.toNat_ofInt, h255, Nat.and_two_pow_sub_one_eq_mod]
  have e : Go.bits .and .i64 n 255 = n % 256 := by
    show IntKind.i64.wrap ((BitVec.ofInt 64 n &&& BitVec.ofInt 64 255).toNat : Nat) = n % 256
    rw [key, IntKind.wrap_i64]
    omega
  rw [e]
  omega
def CurOk (b : List Int) (i : Int) : Prop := 0 ≤ i ∧ i ≤ (b.length : Int)
theorem draw_byte (b : List Int) (i h : Int) (hb : b.length ≤ 1048576) (hi : CurOk b i) : ∃ r i' h', spec_l01Byte.f b i h = some (r, i', h') ∧ (0 ≤ r ∧ r ≤ 255) ∧ CurOk b i' := by
  unfold spec_l01Byte.f
  by_cases c : i < (b.length : Int)
  · rw [if_pos c, if_pos hi.1]
    refine ⟨_, _, _, rfl, and255 _, ?_⟩
    unfold CurOk at hi ⊢
    rw [w64 (by omega) (by omega)]
    omega
  · rw [if_neg c]
    exact ⟨_, _, _, rfl, and255 _, hi⟩
theorem draw_below (b : List Int) (i h n : Int) (hb : b.length ≤ 1048576) (hi : CurOk b i) : ∃ r i' h', spec_l01Below.f b i h n = some (r, i', h') ∧ 0 ≤ r ∧ (0 < n → r < n) ∧ (n ≤ 0 → r = 0) ∧ CurOk b i' := by
  unfold spec_l01Below.f
  by_cases c : n ≤ 0
  · rw [if_pos c]
    exact ⟨_, _, _, rfl, Int.le_refl _, fun h => by omega, fun _ => rfl, hi⟩
  rw [if_neg c]
  obtain ⟨r1, i1, h1, e1, q1, g1⟩ := draw_byte b i h hb hi
  by_cases c2 : n ≤ 256
  · rw [if_pos c2, e1, Option.bind_some, if_neg (by omega)]
    exact ⟨_, _, _, rfl, Int.tmod_nonneg _ q1.1, fun _ => Int.tmod_lt_of_pos _ (by omega), fun h => by omega, g1⟩
  · rw [if_neg c2]
    obtain ⟨r2, i2, h2, e2, q2, g2⟩ := draw_byte b i1 h1 hb g1
    obtain ⟨r3, i3, h3, e3, q3, g3⟩ := draw_byte b i2 h2 hb g2
    obtain ⟨r4, i4, h4, e4, q4, g4⟩ := draw_byte b i3 h3 hb g3
    simp only [e1, e2, e3, e4, Option.bind_some]
    rw [if_neg (by omega), w64 (x := r1 * 16777216) (by omega) (by omega), w64 (x := r2 * 65536) (by omega) (by omega), w64 (x := r1 * 16777216 + r2 * 65536) (by omega) (by omega), w64 (x := r3 * 256) (by omega) (by omega), w64 (x := r1 * 16777216 + r2 * 65536 + r3 * 256) (by omega) (by omega), w64 (x := r1 * 16777216 + r2 * 65536 + r3 * 256 + r4) (by omega) (by omega)]
    exact ⟨_, _, _, rfl, Int.tmod_nonneg _ (by omega), fun _ => Int.tmod_lt_of_pos _ (by omega), fun h => by omega, g4⟩
theorem draw_new0 (b : List Int) (hb : b.length ≤ 1048576) : ∀ (m j : Nat) (x : Int), j + m = b.length → ∃ h, Ev (fun k => spec_l01New.l0 k b x (j : Int)) (b, 0, h)
  | 0, j, x, e => by
    refine ⟨x, ev_step ?_⟩
    simp only [spec_l01New.l0]
    exact ev_neg (by omega) (Ev.now _)
  | m + 1, j, x, e => by
    by_cases c : (j : Int) < 4000
    · obtain ⟨h, hh⟩ := draw_new0 b hb m (j + 1) (Go.bits .and .i64 (wrap64 ((wrap64 ((wrap64 (x * 131)) + (wrap64 (rd b (j : Int))))) + 7)) 1073741823) (by omega)
      refine ⟨h, ev_step ?_⟩
      simp only [spec_l01New.l0]
      rw [next64 _ (by omega)]
      exact ev_pos (by omega) (ev_pos c (ev_pos (by omega) hh))
    · refine ⟨x, ev_step ?_⟩
      simp only [spec_l01New.l0]
      exact ev_pos (by omega) (ev_neg c (Ev.now _))
theorem draw_new (b : List Int) (hb : b.length ≤ 1048576) : ∃ h, Ev (fun k => spec_l01New.f k b) (b, 0, h) := draw_new0 b hb b.length 0 _ (by omega)
theorem cur0 (b : List Int) : CurOk b 0 := ⟨Int.le_refl _, by omega⟩
theorem strOfNums_size (x : List Int) : (strOfNums x).size = x.length := by
  show (List.map (fun n : Int => UInt8.ofNat n.toNat) x).toArray.size = _
  simp

theorem less_asym (a b : List UInt8) (h : Op.bytesLess a b = true) : Op.bytesLess b a = false := by
  have t := StrCmp.less_total a b
  rw [h, Bool.true_or] at t
  cases hb : Op.bytesLess b a with
  | false => rfl
  | true => rw [hb] at t; cases t
theorem less_irr (a : List UInt8) : Op.bytesLess a a = false := by
  cases h : Op.bytesLess a a with
  | false => rfl
  | true => rw [less_asym a a h] at h; cases h
theorem less_eq (a b : List UInt8) (h1 : Op.bytesLess a b = false) (h2 : Op.bytesLess b a = false) : a = b := by
  have t := StrCmp.less_total a b
  rw [h1, h2, Bool.false_or] at t
  exact eq_of_beq t

theorem less_trans : ∀ (a b c : List UInt8), Op.bytesLess a b = true → Op.bytesLess b c = true → Op.bytesLess a c = true
  | _, [], _, h, _ => by cases ‹List UInt8› <;> simp [Op.bytesLess] at h
  | _, _ :: _, [], _, h => by simp [Op.bytesLess] at h
  | [], _ :: _, _ :: _, _, _ => rfl
  | x :: a, y :: b, z :: c, h1, h2 => by
    simp only [Op.bytesLess, Bool.or_eq_true, Bool.and_eq_true, decide_eq_true_eq, beq_iff_eq, UInt8.lt_iff_toNat_lt] at h1 h2 ⊢
    rcases h1 with h1 | ⟨rfl, h1⟩
    · rcases h2 with h2 | ⟨rfl, h2⟩
      · exact .inl (by omega)
      · exact .inl h1
    · rcases h2 with h2 | ⟨rfl, h2⟩
      · exact .inl h2
      · exact .inr ⟨rfl, less_trans a b c h1 h2⟩

/-! a write is put among others -/
def ltW (a b : ByteArray) : Bool := Op.bytesLess a.toList b.toList
def SrtW (L : List IWrite) : Prop := L.Pairwise fun a b => ltW a.f0 b.f0 = true
def putW (w : IWrite) (L : List IWrite) : List IWrite := L.filter (fun x => ltW x.f0 w.f0) ++ [w] ++ L.filter (fun x => ltW w.f0 x.f0)
theorem ltW_irr (a : ByteArray) : ltW a a = false := less_irr _
theorem ltW_asym {a b : ByteArray} (h : ltW a b = true) : ltW b a = false := less_asym _ _ h
theorem ltW_trans {a b c : ByteArray} (h : ltW a b = true) (k : ltW b c = true) : ltW a c = true := less_trans _ _ _ h k
theorem ltW_eq {a b : ByteArray} (h : ltW a b = false) (k : ltW b a = false) : a = b := toList_inj' (less_eq _ _ h k)
theorem putW_length (w : IWrite) : ∀ (L : List IWrite), (putW w L).length ≤ L.length + 1 := by
  intro L
  have h : (L.filter (fun x => ltW x.f0 w.f0)).length + (L.filter (fun x => ltW w.f0 x.f0)).length ≤ L.length := by
    induction L with
    | nil => simp
    | cons x L ih =>
      rw [List.filter_cons, List.filter_cons]
      cases c : ltW x.f0 w.f0 with
      | true =>
        rw [ltW_asym c]
        simp only [if_true, Bool.false_eq_true, if_false, List.length_cons]
        omega
      | false =>
        cases d : ltW w.f0 x.f0 with
        | true => simp only [if_true, Bool.false_eq_true, if_false, List.length_cons]; omega
        | false => simp only [Bool.false_eq_true, if_false, List.length_cons]; omega
  unfold putW
  rw [List.length_append, List.length_append, List.length_singleton]
  omega
theorem putW_mem {w x : IWrite} {L : List IWrite} (h : x ∈ putW w L) : x = w ∨ x ∈ L := by
  unfold putW at h
  rcases List.mem_append.1 h with h | h
  · rcases List.mem_append.1 h with h | h
    · exact .inr (List.mem_filter.1 h).1
    · exact .inl (List.mem_singleton.1 h)
  · exact .inr (List.mem_filter.1 h).1
theorem putW_srt (w : IWrite) (L : List IWrite) (h : SrtW L) : SrtW (putW w L) := by
  unfold SrtW putW
  rw [List.append_assoc, List.pairwise_append]
  refine ⟨h.sublist List.filter_sublist, ?_, ?_⟩
  · rw [List.singleton_append, List.pairwise_cons]
    exact ⟨fun x hx => (List.mem_filter.1 hx).2, h.sublist List.filter_sublist⟩
  · intro a ha b hb
    have ha2 := (List.mem_filter.1 ha).2
    rcases List.mem_append.1 hb with hb | hb
    · rw [List.mem_singleton] at hb; subst hb; exact ha2
    · exact ltW_trans ha2 (List.mem_filter.1 hb).2
theorem putW_at (w : IWrite) (pre rest : List IWrite) (h : SrtW (pre ++ rest)) (hp : ∀ x ∈ pre, ltW x.f0 w.f0 = true) (hr : ∀ x ∈ rest, ltW x.f0 w.f0 = false) : putW w (pre ++ rest) = pre ++ [w] ++ rest.filter (fun x => ltW w.f0 x.f0) := by
  unfold putW
  rw [List.filter_append, List.filter_append, List.filter_eq_self.2 hp, List.filter_eq_nil_iff.2 (fun x hx => by rw [hr x hx]; decide), List.append_nil]
  rw [List.filter_eq_nil_iff.2 (fun x hx => by rw [ltW_asym (hp x hx)]; decide), List.nil_append]
theorem srt_tail {pre rest : List IWrite} {x : IWrite} (h : SrtW (pre ++ x :: rest)) : ∀ y ∈ rest, ltW x.f0 y.f0 = true := by
  have h2 := (List.pairwise_append.1 h).2.1
  exact (List.pairwise_cons.1 h2).1
theorem impl_put0 (w : IWrite) (L : List IWrite) (hL : L.length ≤ 1048576) (h : SrtW L) : ∀ (rest pre : List IWrite), L = pre ++ rest → (∀ x ∈ pre, ltW x.f0 w.f0 = true) → Ev (fun k => impl_PutWrite.l0 k L (pre.length : Int) w.f0 w.f1 w.f2) (putW w L)
  | [], pre, e, hp => by
    have hL2 : L = pre := by rw [e, List.append_nil]
    refine ev_step ?_
    simp only [impl_PutWrite.l0]
    refine ev_neg (by rw [hL2]; omega) (ev_pos (by omega) (ev_pos (by rw [hL2]; omega) (ev_pos (by omega) (ev_now ?_))))
    have hq := putW_at w pre [] (by rw [← e]; exact h) hp (fun x hx => by cases hx)
    rw [hL2, Int.toNat_natCast]
    rw [List.append_nil, List.filter_nil, List.append_nil] at hq
    rw [hq, List.take_length, List.drop_length, List.append_nil]
  | x :: rest, pre, e, hp => by
    have hg : rd_T42 L (pre.length : Int) = x := by unfold rd_T42; rw [Int.toNat_natCast, e, getD_mid]
    have hlt : (pre.length : Int) < (L.length : Int) := by rw [e]; exact len_mid _ _ _
    have ht := srt_tail (by rw [← e]; exact h)
    refine ev_step ?_
    simp only [impl_PutWrite.l0]
    rw [hg, next64 _ (by omega)]
    refine ev_pos hlt (ev_pos (by omega) ?_)
    by_cases c : ltW x.f0 w.f0 = true
    · have ih := impl_put0 w L hL h rest (pre ++ [x]) (by simp [e]) (fun y hy => by
        rcases List.mem_append.1 hy with hy | hy
        · exact hp y hy
        · rw [List.mem_singleton] at hy; subst hy; exact c)
      rw [List.length_append, List.length_singleton] at ih
      exact ev_pos c ih
    · have c1 : ltW x.f0 w.f0 = false := by simpa using c
      refine ev_neg c ?_
      by_cases d : x.f0.toList = w.f0.toList
      · have hx : x.f0 = w.f0 := toList_inj' d
        refine ev_pos d (ev_now ?_)
        have hq := putW_at w pre (x :: rest) (by rw [← e]; exact h) hp (fun y hy => by
          rcases List.mem_cons.1 hy with rfl | hy
          · exact c1
          · rw [← hx]; exact ltW_asym (ht y hy))
        rw [e, Int.toNat_natCast, set_mid, hq, List.filter_cons, hx, ltW_irr, if_neg (by decide), List.filter_eq_self.2 (fun y hy => by rw [← hx]; exact ht y hy)]
        simp
      · have c2 : ltW w.f0 x.f0 = true := by
          cases q : ltW w.f0 x.f0 with
          | true => rfl
          | false => exact absurd (by rw [ltW_eq c1 q]) d
        refine ev_neg d (ev_pos (by omega) (ev_pos (by omega) (ev_now ?_)))
        have hq := putW_at w pre (x :: rest) (by rw [← e]; exact h) hp (fun y hy => by
          rcases List.mem_cons.1 hy with rfl | hy
          · exact c1
          · exact ltW_asym (ltW_trans c2 (ht y hy)))
        rw [e, Int.toNat_natCast, hq, List.filter_eq_self.2 (fun y hy => by
          rcases List.mem_cons.1 hy with rfl | hy
          · exact c2
          · exact ltW_trans c2 (ht y hy))]
        simp
theorem impl_putW (w : IWrite) (L : List IWrite) (hL : L.length ≤ 1048576) (h : SrtW L) : Ev (fun k => impl_PutWrite.f k L w.f0 w.f1 w.f2) (putW w L) := by
  unfold impl_PutWrite.f
  exact ev_pos (by simp; omega) (impl_put0 w L hL h L [] rfl (fun x hx => by cases hx))
theorem spec_put1 (w : IWrite) (L : List IWrite) (hL : L.length ≤ 1048576) : ∀ (rest pre acc : List IWrite), L = pre ++ rest → acc.length ≤ L.length + 1 + pre.length → Ev (fun k => spec_PutWrite.l1 k L acc (pre.length : Int) w.f0 w.f1 w.f2) (acc ++ rest.filter (fun x => ltW w.f0 x.f0))
  | [], pre, acc, e, h => by
    refine ev_step ?_
    simp only [spec_PutWrite.l1]
    exact ev_neg (by rw [e]; simp) (ev_now (by simp))
  | x :: rest, pre, acc, e, h => by
    have hg : rd_T42 L (pre.length : Int) = x := by unfold rd_T42; rw [Int.toNat_natCast, e, getD_mid]
    have hlt : (pre.length : Int) < (L.length : Int) := by rw [e]; exact len_mid _ _ _
    refine ev_step ?_
    simp only [spec_PutWrite.l1]
    rw [hg, next64 _ (by omega)]
    refine ev_pos hlt (ev_pos (by omega) ?_)
    by_cases c : ltW w.f0 x.f0 = true
    · have ih := spec_put1 w L hL rest (pre ++ [x]) (acc ++ [x]) (by simp [e]) (by simp; omega)
      rw [List.length_append, List.length_singleton] at ih
      refine ev_pos c (ev_pos (by omega) (ev_eq ih ?_))
      rw [List.filter_cons, if_pos c, List.append_assoc]
      rfl
    · have ih := spec_put1 w L hL rest (pre ++ [x]) acc (by simp [e]) (by simp; omega)
      rw [List.length_append, List.length_singleton] at ih
      refine ev_neg c (ev_eq ih ?_)
      rw [List.filter_cons, if_neg c]
theorem spec_put0 (w : IWrite) (L : List IWrite) (hL : L.length ≤ 1048576) : ∀ (rest pre acc : List IWrite), L = pre ++ rest → acc.length ≤ pre.length → Ev (fun k => spec_PutWrite.l0 k L acc (pre.length : Int) w.f0 w.f1 w.f2) (acc ++ rest.filter (fun x => ltW x.f0 w.f0) ++ [w] ++ L.filter (fun x => ltW w.f0 x.f0))
  | [], pre, acc, e, h => by
    have hL2 : L.length = pre.length := by rw [e, List.append_nil]
    refine ev_step ?_
    simp only [spec_PutWrite.l0]
    have h1 := spec_put1 w L hL L [] (acc ++ [w]) rfl (by simp; omega)
    exact ev_neg (by omega) (ev_pos (by omega) (ev_eq h1 (by simp)))
  | x :: rest, pre, acc, e, h => by
    have hg : rd_T42 L (pre.length : Int) = x := by unfold rd_T42; rw [Int.toNat_natCast, e, getD_mid]
    have hlt : (pre.length : Int) < (L.length : Int) := by rw [e]; exact len_mid _ _ _
    refine ev_step ?_
    simp only [spec_PutWrite.l0]
    rw [hg, next64 _ (by omega)]
    refine ev_pos hlt (ev_pos (by omega) ?_)
    by_cases c : ltW x.f0 w.f0 = true
    · have ih := spec_put0 w L hL rest (pre ++ [x]) (acc ++ [x]) (by simp [e]) (by simp; omega)
      rw [List.length_append, List.length_singleton] at ih
      refine ev_pos c (ev_pos (by omega) (ev_eq ih ?_))
      rw [List.filter_cons, if_pos c]
      simp
    · have ih := spec_put0 w L hL rest (pre ++ [x]) acc (by simp [e]) (by simp; omega)
      rw [List.length_append, List.length_singleton] at ih
      refine ev_neg c (ev_eq ih ?_)
      rw [List.filter_cons, if_neg c]
theorem spec_putW (w : IWrite) (L : List IWrite) (hL : L.length ≤ 1048576) : Ev (fun k => spec_PutWrite.f k L w.f0 w.f1 w.f2) (putW w L) := by
  unfold spec_PutWrite.f
  exact ev_eq (spec_put0 w L hL L [] [] rfl (Nat.le_refl _)) (by unfold putW; simp)

/-- Both answers on keys, from a place on. -/
theorem keyOk_l (s : ByteArray) (hs : s.size ≤ 140737488351232) : ∀ (d i : Nat), i + d = s.size → ∃ r, Ev (fun k => spec_KeyOk.l0 k s i) r ∧ Ev (fun k => impl_KeyOk.l0 k s i) r := by
  intro d
  induction d with
  | zero =>
    intro i hi
    obtain ⟨v, hv⟩ : ∃ v, impl_within.f (s.size : Int) 1 3 = some v := by unfold impl_within.f; split <;> exact ⟨_, rfl⟩
    have hv2 : spec_l01In.f (s.size : Int) 1 3 = some v := hv
    refine ⟨v, ev_step ?_, ev_step ?_⟩
    · simp only [spec_KeyOk.l0]
      exact ev_neg (by omega) (ev_cbind hv2 (Ev.now _))
    · simp only [impl_KeyOk.l0]
      exact ev_neg (by omega) (ev_cbind hv (Ev.now _))
  | succ d ih =>
    intro i hi
    by_cases h1 : bt s i < 97
    · refine ⟨false, ev_step ?_, ev_step ?_⟩
      · simp only [spec_KeyOk.l0]
        exact ev_pos (by omega) (ev_pos (by omega) (ev_pos h1 (Ev.now _)))
      · simp only [impl_KeyOk.l0]
        exact ev_pos (by omega) (ev_pos (by omega) (ev_pos h1 (Ev.now _)))
    · by_cases h2 : bt s i > 122
      · refine ⟨false, ev_step ?_, ev_step ?_⟩
        · simp only [spec_KeyOk.l0]
          exact ev_pos (by omega) (ev_pos (by omega) (ev_neg h1 (ev_pos h2 (Ev.now _))))
        · simp only [impl_KeyOk.l0]
          exact ev_pos (by omega) (ev_pos (by omega) (ev_neg h1 (ev_pos h2 (Ev.now _))))
      · obtain ⟨r, e1, e2⟩ := ih (i + 1) (by omega)
        have e : wrap64 ((i : Int) + 1) = ((i + 1 : Nat) : Int) := by rw [w64 (by omega) (by omega)]; omega
        refine ⟨r, ev_step ?_, ev_step ?_⟩
        · simp only [spec_KeyOk.l0]
          refine ev_pos (by omega) (ev_pos (by omega) (ev_neg h1 (ev_neg h2 ?_)))
          rw [e]; exact e1
        · simp only [impl_KeyOk.l0]
          refine ev_pos (by omega) (ev_pos (by omega) (ev_neg h1 (ev_neg h2 ?_)))
          rw [e]; exact e2
theorem keyOk_both (s : ByteArray) (hs : s.size ≤ 140737488351232) : ∃ r, Ev (fun k => spec_KeyOk.f k s) r ∧ Ev (fun k => impl_KeyOk.f k s) r := keyOk_l s hs s.size 0 (by omega)

theorem writeOk_both (a b : ByteArray) (g : Bool) (ha : a.size ≤ 140737488351232) : ∃ r, Ev (fun k => spec_WriteOk.f k a b g) r ∧ Ev (fun k => impl_WriteOk.f k a b g) r := by
  obtain ⟨r1, e1, f1⟩ := keyOk_both a ha
  unfold spec_WriteOk.f impl_WriteOk.f
  cases r1 with
  | false => exact ⟨false, ev_bind e1 (ev_neg (by simp) (Ev.now _)), ev_bind f1 (ev_neg (by simp) (Ev.now _))⟩
  | true =>
    by_cases c : (b.size : Int) ≤ 12
    · cases g with
      | true => exact ⟨_, ev_bind e1 (ev_pos rfl (ev_pos c (ev_pos rfl (Ev.now _)))), ev_bind f1 (ev_pos rfl (ev_pos c (ev_pos rfl (Ev.now _))))⟩
      | false => exact ⟨_, ev_bind e1 (ev_pos rfl (ev_pos c (ev_neg (by simp) (Ev.now _)))), ev_bind f1 (ev_pos rfl (ev_pos c (ev_neg (by simp) (Ev.now _))))⟩
    · exact ⟨_, ev_bind e1 (ev_pos rfl (ev_neg c (Ev.now _))), ev_bind f1 (ev_pos rfl (ev_neg c (Ev.now _)))⟩

/-! writes are right -/
theorem writesOk_l (l : List IWrite) (hl : l.length ≤ 1048576) (hz : ∀ x ∈ l, x.f0.size ≤ 140737488351232) : ∀ (rest pre : List IWrite), l = pre ++ rest →
    ∃ r, Ev (fun k => spec_WritesOk.l0 k l (pre.length : Int)) r ∧ Ev (fun k => impl_WritesOk.l0 k l l (l.length : Int) (pre.length : Int)) r := by
  intro rest
  induction rest with
  | nil =>
    intro pre e
    have hn : ¬ (pre.length : Int) < (l.length : Int) := by rw [e]; simp
    refine ⟨decide ((l.length : Int) ≤ 8), ev_step ?_, ev_step ?_⟩
    · simp only [spec_WritesOk.l0]
      exact ev_neg hn (Ev.now _)
    · simp only [impl_WritesOk.l0]
      exact ev_neg hn (Ev.now _)
  | cons x rest ih =>
    intro pre e
    have hg : rd_T42 l (pre.length : Int) = x := by unfold rd_T42; rw [Int.toNat_natCast, e, getD_mid]
    have hlt : (pre.length : Int) < (l.length : Int) := by rw [e]; exact len_mid _ _ _
    obtain ⟨r, i1, i2⟩ := ih (pre ++ [x]) (by simp [e])
    rw [List.length_append, List.length_singleton] at i1 i2
    obtain ⟨v, w1, w2⟩ := writeOk_both x.f0 x.f1 x.f2 (hz x (by rw [e]; simp))
    have hw : wrap64 ((pre.length : Int) - 1) = (pre.length : Int) - 1 := w64 (by omega) (by omega)
    cases v with
    | false =>
      refine ⟨false, ev_step ?_, ev_step ?_⟩
      · simp only [spec_WritesOk.l0]
        rw [hg]
        exact ev_pos hlt (ev_pos (by omega) (ev_bind w1 (ev_neg (by simp) (Ev.now _))))
      · simp only [impl_WritesOk.l0]
        rw [hg]
        exact ev_pos hlt (ev_pos (by omega) (ev_pos hlt (ev_bind w2 (ev_neg (by simp) (Ev.now _)))))
    | true =>
      by_cases c : (pre.length : Int) > 0
      · by_cases d : ((Op.bytesLess (((rd_T42 l ((pre.length : Int) - 1)).f0).toList) ((x.f0).toList)) = true)
        · refine ⟨r, ev_step ?_, ev_step ?_⟩
          · simp only [spec_WritesOk.l0]
            rw [hg, hw, next64 _ (by omega)]
            exact ev_pos hlt (ev_pos (by omega) (ev_bind w1 (ev_pos rfl (ev_pos c (ev_pos (by omega) (ev_pos (by omega) (ev_pos d i1)))))))
          · simp only [impl_WritesOk.l0]
            rw [hg, hw, next64 _ (by omega)]
            exact ev_pos hlt (ev_pos (by omega) (ev_pos hlt (ev_bind w2 (ev_pos rfl (ev_pos c (ev_pos (by omega) (ev_pos (by omega) (ev_pos d i2))))))))
        · refine ⟨false, ev_step ?_, ev_step ?_⟩
          · simp only [spec_WritesOk.l0]
            rw [hg, hw, next64 _ (by omega)]
            exact ev_pos hlt (ev_pos (by omega) (ev_bind w1 (ev_pos rfl (ev_pos c (ev_pos (by omega) (ev_pos (by omega) (ev_neg d (Ev.now _))))))))
          · simp only [impl_WritesOk.l0]
            rw [hg, hw, next64 _ (by omega)]
            exact ev_pos hlt (ev_pos (by omega) (ev_pos hlt (ev_bind w2 (ev_pos rfl (ev_pos c (ev_pos (by omega) (ev_pos (by omega) (ev_neg d (Ev.now _)))))))))
      · refine ⟨r, ev_step ?_, ev_step ?_⟩
        · simp only [spec_WritesOk.l0]
          rw [hg, next64 _ (by omega)]
          exact ev_pos hlt (ev_pos (by omega) (ev_bind w1 (ev_pos rfl (ev_neg c i1))))
        · simp only [impl_WritesOk.l0]
          rw [hg, next64 _ (by omega)]
          exact ev_pos hlt (ev_pos (by omega) (ev_pos hlt (ev_bind w2 (ev_pos rfl (ev_neg c i2)))))
theorem writesOk_both (l : List IWrite) (hl : l.length ≤ 1048576) (hz : ∀ x ∈ l, x.f0.size ≤ 140737488351232) : ∃ r, Ev (fun k => spec_WritesOk.f k l) r ∧ Ev (fun k => impl_WritesOk.f k l) r := writesOk_l l hl hz l [] rfl

theorem draw_once (b : List Int) (i h n : Int) (hb : b.length ≤ 1048576) (hi : CurOk b i) : ∃ r i' h', spec_l01Once.f b i h n = some (r, i', h') ∧ CurOk b i' := by
  unfold spec_l01Once.f
  obtain ⟨r, i1, h1, e1, _, _, _, g1⟩ := draw_below b i h n hb hi
  rw [e1, Option.bind_some]
  exact ⟨_, _, _, rfl, g1⟩

theorem draw_pick (b : List Int) (i h : Int) (l : List ByteArray) (hb : b.length ≤ 1048576) (g : CurOk b i) (h0 : 0 < l.length) : ∃ v i' h', spec_l01Pick.f b i h l = some (v, i', h') ∧ v ∈ l ∧ CurOk b i' := by
  unfold spec_l01Pick.f
  obtain ⟨r, i1, h1, e1, q1, q2, _, g1⟩ := draw_below b i h (l.length : Int) hb g
  have q3 := q2 (by omega)
  rw [e1, Option.bind_some, if_pos q1, if_pos q3]
  refine ⟨_, _, _, rfl, ?_, g1⟩
  unfold rdOf
  have h2 : r.toNat < l.length := by omega
  rw [List.getD_eq_getElem?_getD, List.getElem?_eq_getElem h2, Option.getD_some]
  exact List.getElem_mem h2
def keysL : List ByteArray := [(⟨#[97]⟩ : ByteArray), (⟨#[98]⟩ : ByteArray), (⟨#[99]⟩ : ByteArray), (⟨#[100]⟩ : ByteArray), (⟨#[97, 98]⟩ : ByteArray)]
theorem draw_key (b : List Int) (i h : Int) (hb : b.length ≤ 1048576) (g : CurOk b i) : ∃ v i' h', spec_l05Key.f b i h = some (v, i', h') ∧ v ∈ keysL ∧ CurOk b i' := by
  unfold spec_l05Key.f
  obtain ⟨v, i1, h1, e1, m, g1⟩ := draw_pick b i h keysL hb g (by decide)
  unfold keysL at e1
  rw [e1, Option.bind_some]
  exact ⟨_, _, _, rfl, m, g1⟩

theorem within_val (a b c : Int) : impl_within.f a b c = some (decide (b ≤ a ∧ a ≤ c)) := by
  unfold impl_within.f
  by_cases h : a ≥ b
  · rw [if_pos h]; congr 1; exact decide_eq_decide.2 ⟨fun h2 => ⟨h, h2⟩, fun h2 => h2.2⟩
  · rw [if_neg h, decide_eq_false (fun h2 => h h2.1)]
theorem key_good0 (s : ByteArray) (h1 : 1 ≤ s.size) (h2 : s.size ≤ 3) (hb : ∀ i : Nat, i < s.size → 97 ≤ bt s (i : Int) ∧ bt s (i : Int) ≤ 122) : ∀ (m j : Nat), j + m = s.size → Ev (fun k => impl_KeyOk.l0 k s (j : Int)) true
  | 0, j, e => by
    refine ev_step ?_
    simp only [impl_KeyOk.l0]
    rw [within_val, decide_eq_true (by omega)]
    exact ev_neg (by omega) (ev_cbind rfl (Ev.now _))
  | m + 1, j, e => by
    have h := hb j (by omega)
    refine ev_step ?_
    simp only [impl_KeyOk.l0]
    rw [next64 _ (by omega)]
    exact ev_pos (by omega) (ev_pos (by omega) (ev_neg (by omega) (ev_neg (by omega) (key_good0 s h1 h2 hb m (j + 1) (by omega)))))
theorem key_good (s : ByteArray) (h : s ∈ keysL) : Ev (fun k => impl_KeyOk.f k s) true := by
  have hz : (1 ≤ s.size ∧ s.size ≤ 3) ∧ ∀ i : Nat, i < s.size → 97 ≤ bt s (i : Int) ∧ bt s (i : Int) ≤ 122 := by
    unfold keysL at h
    simp only [List.mem_cons, List.not_mem_nil, or_false] at h
    have one : ∀ c : UInt8, 97 ≤ c.toNat ∧ c.toNat ≤ 122 → ((1 ≤ (⟨#[c]⟩ : ByteArray).size ∧ (⟨#[c]⟩ : ByteArray).size ≤ 3) ∧ ∀ i : Nat, i < (⟨#[c]⟩ : ByteArray).size → 97 ≤ bt ⟨#[c]⟩ (i : Int) ∧ bt ⟨#[c]⟩ (i : Int) ≤ 122) := fun c hc => by
      refine ⟨⟨Nat.le_refl _, by show 1 ≤ 3; decide⟩, fun i hi => ?_⟩
      have : i = 0 := by have : (⟨#[c]⟩ : ByteArray).size = 1 := rfl; omega
      subst this
      show (97 : Int) ≤ (c.toNat : Int) ∧ (c.toNat : Int) ≤ 122
      omega
    rcases h with rfl | rfl | rfl | rfl | rfl
    · exact one 97 (by decide)
    · exact one 98 (by decide)
    · exact one 99 (by decide)
    · exact one 100 (by decide)
    · refine ⟨⟨by show 1 ≤ 2; decide, by show 2 ≤ 3; decide⟩, fun i hi => ?_⟩
      have h2 : i < 2 := hi
      rcases (show i = 0 ∨ i = 1 by omega) with rfl | rfl
      · show (97 : Int) ≤ 97 ∧ (97 : Int) ≤ 122; decide
      · show (97 : Int) ≤ 98 ∧ (98 : Int) ≤ 122; decide
  unfold impl_KeyOk.f
  exact key_good0 s hz.1.1 hz.1.2 hz.2 s.size 0 (by omega)
theorem keys_small (s : ByteArray) (h : s ∈ keysL) : s.size ≤ 140737488351232 := by
  unfold keysL at h
  simp only [List.mem_cons, List.not_mem_nil, or_false] at h
  rcases h with rfl | rfl | rfl | rfl | rfl
  · show 1 ≤ _; decide
  · show 1 ≤ _; decide
  · show 1 ≤ _; decide
  · show 1 ≤ _; decide
  · show 2 ≤ _; decide

/-! long texts of one byte -/
theorem long0 (N : Nat) (x : Int) (hN : N ≤ 1099511627776) : ∀ (m j : Nat), j + m = N → Ev (fun k => spec_l01Long.l0 k (N : Int) x (List.replicate j x ++ List.replicate m 0) (j : Int)) (strOfNums (List.replicate N x))
  | 0, j, e => by
    refine ev_step ?_
    simp only [spec_l01Long.l0]
    obtain rfl : j = N := by omega
    exact ev_neg (by omega) (ev_now (by simp))
  | m + 1, j, e => by
    refine ev_step ?_
    simp only [spec_l01Long.l0]
    have h := long0 N x hN m (j + 1) (by omega)
    have hs : (List.replicate j x ++ List.replicate (m + 1) (0 : Int)).set (j : Int).toNat x = List.replicate (j + 1) x ++ List.replicate m 0 := by
      rw [Int.toNat_natCast, List.set_append_right _ _ (by simp), List.length_replicate, Nat.sub_self, List.replicate_succ, List.set_cons_zero, List.replicate_succ']
      simp
    rw [hs, next64 _ (by omega)]
    exact ev_pos (by omega) (ev_pos (by omega) (ev_pos (by simp; omega) h))
theorem long_ok (N : Nat) (x : Int) (hN : N ≤ 1099511627776) : Ev (fun k => spec_l01Long.f k (N : Int) x) (strOfNums (List.replicate N x)) := by
  unfold spec_l01Long.f
  rw [Int.toNat_natCast]
  have h := long0 N x hN N 0 (by omega)
  exact ev_pos (by omega) (ev_pos (by omega) h)

/-! right writes are drawn -/
def GoodW (x : IWrite) : Prop := x.f0 ∈ keysL ∧ x.f1.size ≤ 12 ∧ (x.f2 = true → x.f1.toList = ([] : List UInt8))
theorem draw_write (b : List Int) (i h : Int) (hb : b.length ≤ 1048576) (g : CurOk b i) : ∃ (w : IWrite) (i' h' : Int), spec_l05Write.f b i h = some (w.f0, w.f1, w.f2, i', h') ∧ GoodW w ∧ CurOk b i' := by
  unfold spec_l05Write.f
  obtain ⟨v, i1, h1, e1, m1, g1⟩ := draw_key b i h hb g
  obtain ⟨v2, i2, h2, e2, m2, g2⟩ := draw_pick b i1 h1 [(⟨#[111, 110, 101]⟩ : ByteArray), (⟨#[116, 119, 111]⟩ : ByteArray), (⟨#[]⟩ : ByteArray), (⟨#[120, 0]⟩ : ByteArray)] hb g1 (by decide)
  obtain ⟨r, i3, h3, e3, g3⟩ := draw_once b i2 h2 5 hb g2
  rw [e1, Option.bind_some, e2, Option.bind_some, e3, Option.bind_some]
  by_cases c : r = true
  · rw [if_pos c]
    refine ⟨⟨v, ⟨#[]⟩, true⟩, _, _, rfl, ⟨m1, by show 0 ≤ 12; decide, fun _ => ?_⟩, g3⟩
    show (⟨#[]⟩ : ByteArray).toList = []
    rw [ByteArray.toList_eq]
  · rw [if_neg c]
    refine ⟨⟨v, v2, false⟩, _, _, rfl, ⟨m1, ?_, fun h => by cases h⟩, g3⟩
    simp only [List.mem_cons, List.not_mem_nil, or_false] at m2
    rcases m2 with rfl | rfl | rfl | rfl
    · show 3 ≤ 12; decide
    · show 3 ≤ 12; decide
    · show 0 ≤ 12; decide
    · show 2 ≤ 12; decide
theorem draw_writes0 (b : List Int) (hb : b.length ≤ 1048576) : ∀ (m j : Nat) (l : List IWrite) (i h : Int), j + m = 4 → l.length ≤ j → SrtW l → (∀ x ∈ l, GoodW x) → CurOk b i → ∃ W i' h', Ev (fun k => spec_l05Writes.l0 k l (j : Int) b i h) (W, i', h') ∧ (W.length ≤ 4 ∧ SrtW W ∧ ∀ x ∈ W, GoodW x) ∧ CurOk b i'
  | m, j, l, i, h, e, hl, hs, hG, g => by
    obtain ⟨r, i1, h1, e1, q1, q2, _, g1⟩ := draw_below b i h 4 hb g
    have q3 := q2 (by decide)
    by_cases c : (j : Int) < r
    · cases m with
      | zero => omega
      | succ m =>
        obtain ⟨w, i2, h2, e2, gw, g2⟩ := draw_write b i1 h1 hb g1
        have e4 := spec_putW w l (by omega)
        have hl2 := putW_length w l
        obtain ⟨W, i', h', e3, hW, g3⟩ := draw_writes0 b hb m (j + 1) (putW w l) i2 h2 (by omega) (by omega) (putW_srt w l hs) (fun x hx => by
          rcases putW_mem hx with rfl | hx
          · exact gw
          · exact hG x hx) g2
        refine ⟨W, i', h', ev_step ?_, hW, g3⟩
        simp only [spec_l05Writes.l0]
        rw [next64 _ (by omega)]
        exact ev_cbind e1 (ev_pos c (ev_cbind e2 (ev_bind e4 e3)))
    · refine ⟨l, i1, h1, ev_step ?_, ⟨by omega, hs, hG⟩, g1⟩
      simp only [spec_l05Writes.l0]
      exact ev_cbind e1 (ev_neg c (Ev.now _))
theorem draw_writes (b : List Int) (i h : Int) (hb : b.length ≤ 1048576) (g : CurOk b i) : ∃ W i' h', Ev (fun k => spec_l05Writes.f k b i h) (W, i', h') ∧ (W.length ≤ 4 ∧ SrtW W ∧ ∀ x ∈ W, GoodW x) ∧ CurOk b i' := draw_writes0 b hb 4 0 [] i h rfl (Nat.le_refl _) List.Pairwise.nil (fun x hx => by cases hx) g
theorem draw_anyW (b : List Int) (i h : Int) (hb : b.length ≤ 1048576) (g : CurOk b i) : ∃ x y z i' h', Ev (fun k => spec_l05Any.f k b i h) (x, y, z, i', h') ∧ x.size ≤ 140737488351232 ∧ CurOk b i' := by
  unfold spec_l05Any.f
  obtain ⟨w, i1, h1, e1, gw, g1⟩ := draw_write b i h hb g
  have hk := keys_small w.f0 gw.1
  obtain ⟨r, i2, h2, e2, q1, q2, _, g2⟩ := draw_below b i1 h1 8 hb g1
  by_cases c0 : r = 0
  · obtain ⟨v, i3, h3, e3, m, g3⟩ := draw_pick b i2 h2 [(⟨#[]⟩ : ByteArray), (⟨#[65]⟩ : ByteArray), (⟨#[97, 98, 99, 100]⟩ : ByteArray), (⟨#[97, 98, 99]⟩ : ByteArray)] hb g2 (by decide)
    refine ⟨v, _, _, _, _, ev_cbind e1 (ev_cbind e2 (ev_pos c0 (ev_cbind e3 (Ev.now _)))), ?_, g3⟩
    simp only [List.mem_cons, List.not_mem_nil, or_false] at m
    rcases m with rfl | rfl | rfl | rfl
    · show 0 ≤ _; omega
    · show 1 ≤ _; omega
    · show 4 ≤ _; omega
    · show 3 ≤ _; omega
  by_cases c1 : r = 1
  · obtain ⟨r3, i3, h3, e3, p1, p2, _, g3⟩ := draw_below b i2 h2 2 hb g2
    have p3 := p2 (by decide)
    have e4 := long_ok (12 + r3).toNat 97 (by omega)
    rw [Int.toNat_of_nonneg (by omega)] at e4
    refine ⟨w.f0, strOfNums (List.replicate (12 + r3).toNat 97), w.f2, i3, h3, ev_cbind e1 (ev_cbind e2 (ev_neg c0 (ev_pos c1 (ev_cbind e3 ?_)))), hk, g3⟩
    show Ev (fun k => (spec_l01Long.f k (wrap64 (12 + r3)) 97).bind _) _
    rw [w64 (x := 12 + r3) (by omega) (by omega)]
    exact ev_bind e4 (Ev.now _)
  by_cases c2 : r = 2
  · exact ⟨w.f0, _, _, _, _, ev_cbind e1 (ev_cbind e2 (ev_neg c0 (ev_neg c1 (ev_pos c2 (Ev.now _))))), hk, g2⟩
  · exact ⟨w.f0, _, _, _, _, ev_cbind e1 (ev_cbind e2 (ev_neg c0 (ev_neg c1 (ev_neg c2 (Ev.now _))))), hk, g2⟩
theorem draw_nine (b : List Int) (hb : b.length ≤ 1048576) (i h : Int) (g : CurOk b i) : ∀ (m j : Nat) (l : List IWrite), j + m = 9 → l.length = 9 → (∀ x ∈ l, x.f0.size ≤ 1) → ∃ T, Ev (fun k => spec_DrawWritesOk.l0 k l (j : Int) b i h) T ∧ T.length ≤ 9 ∧ ∀ x ∈ T, x.f0.size ≤ 1
  | 0, j, l, e, hl, hz => by
    obtain ⟨r, i1, h1, e1, q1, q2, _, g1⟩ := draw_below b i h 2 hb g
    have q3 := q2 (by decide)
    have hw : wrap64 (8 + r) = 8 + r := w64 (by omega) (by omega)
    refine ⟨l.take (8 + r).toNat, ev_step ?_, by rw [List.length_take]; omega, fun x hx => hz x (List.mem_of_mem_take hx)⟩
    simp only [spec_DrawWritesOk.l0]
    refine ev_neg (by omega) (ev_cbind e1 ?_)
    show Ev (fun k => if 0 ≤ wrap64 (8 + r) then _ else _) _
    rw [hw]
    exact ev_pos (by omega) (ev_pos (by omega) (Ev.now _))
  | m + 1, j, l, e, hl, hz => by
    obtain ⟨T, e1, hT⟩ := draw_nine b hb i h g m (j + 1) (l.set j (⟨strOfNums [(wrap64 (97 + (j : Int))) % 256], (rd_T42 l (j : Int)).f1, (rd_T42 l (j : Int)).f2⟩ : IWrite)) (by omega) (by rw [List.length_set]; exact hl) (fun x hx => by
      rcases List.mem_or_eq_of_mem_set hx with h2 | rfl
      · exact hz x h2
      · show (strOfNums _).size ≤ 1; rw [strOfNums_size]; exact Nat.le_refl _)
    refine ⟨T, ev_step ?_, hT⟩
    simp only [spec_DrawWritesOk.l0]
    rw [next64 _ (by omega), Int.toNat_natCast]
    exact ev_pos (by omega) (ev_pos (by omega) (ev_pos (by omega) e1))
theorem draw_wok (b : List Int) (hb : b.length ≤ 1048576) : ∃ T, Ev (fun k => spec_DrawWritesOk.f k b) T ∧ T.length ≤ 9 ∧ ∀ x ∈ T, x.f0.size ≤ 140737488351232 := by
  obtain ⟨h0, e0⟩ := draw_new b hb
  obtain ⟨W, i1, h1, e1, ⟨w1, w2, w3⟩, g1⟩ := draw_writes b 0 h0 hb (cur0 b)
  obtain ⟨r, i2, h2, e2, _, _, _, g2⟩ := draw_below b i1 h1 5 hb g1
  have hk : ∀ x ∈ W, x.f0.size ≤ 140737488351232 := fun x hx => keys_small x.f0 (w3 x hx).1
  unfold spec_DrawWritesOk.f
  by_cases c0 : r = 0
  · obtain ⟨x, y, z, i3, h3, e3, hx, g3⟩ := draw_anyW b i2 h2 hb g2
    refine ⟨_, ev_bind e0 (ev_bind e1 (ev_cbind e2 (ev_pos c0 (ev_bind e3 (ev_pos (by show W.length < _; omega) (Ev.now _)))))), by simp; omega, fun u hu => ?_⟩
    rcases List.mem_append.1 hu with hu | hu
    · exact hk u hu
    · rw [List.mem_singleton] at hu; subst hu; exact hx
  by_cases c1 : r = 1
  · obtain ⟨T, e3, t1, t2⟩ := draw_nine b hb i2 h2 g2 9 0 (List.replicate 9 z42) rfl (by simp) (fun x hx => by rw [(List.mem_replicate.1 hx).2]; show 0 ≤ 1; decide)
    exact ⟨T, ev_bind e0 (ev_bind e1 (ev_cbind e2 (ev_neg c0 (ev_pos c1 (ev_pos (by decide) e3))))), t1, fun x hx => by have := t2 x hx; omega⟩
  · exact ⟨W, ev_bind e0 (ev_bind e1 (ev_cbind e2 (ev_neg c0 (ev_neg c1 (Ev.now _))))), by omega, hk⟩

/-! the law's own loops -/
theorem good_write (x : IWrite) (h : GoodW x) : Ev (fun k => impl_WriteOk.f k x.f0 x.f1 x.f2) true := by
  obtain ⟨h1, h2, h3⟩ := h
  unfold impl_WriteOk.f
  refine ev_bind (key_good x.f0 h1) (ev_pos rfl (ev_pos (by omega) ?_))
  cases q : x.f2 with
  | true => exact ev_pos rfl (ev_now (by rw [h3 q]; rfl))
  | false => exact ev_neg (by simp) (Ev.now _)
theorem good_writes0 (O : List IWrite) (hO : O.length ≤ 8) (hs : SrtW O) (hG : ∀ x ∈ O, GoodW x) : ∀ (rest pre : List IWrite), O = pre ++ rest → Ev (fun k => impl_WritesOk.l0 k O O (O.length : Int) (pre.length : Int)) true
  | [], pre, e => by
    refine ev_step ?_
    simp only [impl_WritesOk.l0]
    exact ev_neg (by rw [e]; simp) (ev_now (decide_eq_true (by omega)))
  | x :: rest, pre, e => by
    have hg : rd_T42 O (pre.length : Int) = x := by unfold rd_T42; rw [Int.toNat_natCast, e, getD_mid]
    have hlt : (pre.length : Int) < (O.length : Int) := by rw [e]; exact len_mid _ _ _
    have ih := good_writes0 O hO hs hG rest (pre ++ [x]) (by simp [e])
    rw [List.length_append, List.length_singleton] at ih
    have hw := good_write x (hG x (by rw [e]; simp))
    refine ev_step ?_
    simp only [impl_WritesOk.l0]
    rw [hg, next64 _ (by omega)]
    refine ev_pos hlt (ev_pos (by omega) (ev_pos hlt (ev_bind hw (ev_pos rfl ?_))))
    by_cases c : (pre.length : Int) > 0
    · have hq : wrap64 ((pre.length : Int) - 1) = ((pre.length - 1 : Nat) : Int) := by rw [w64 (by omega) (by omega)]; omega
      rw [hq]
      refine ev_pos c (ev_pos (by omega) (ev_pos (by omega) (ev_pos ?_ ih)))
      have hp : pre.length - 1 < O.length := by omega
      have hr : rd_T42 O ((pre.length - 1 : Nat) : Int) = O[pre.length - 1]'hp := by unfold rd_T42; rw [Int.toNat_natCast, List.getD_eq_getElem?_getD, List.getElem?_eq_getElem hp]; rfl
      rw [hr]
      have hl : pre.length < O.length := by omega
      have hx : O[pre.length]'hl = x := by
        have := List.getElem?_eq_getElem hl
        have h2 : O[pre.length]? = some x := by rw [e]; simp
        rw [h2] at this
        exact (Option.some.inj this).symm
      have := List.pairwise_iff_getElem.1 hs (pre.length - 1) pre.length hp hl (by omega)
      rw [hx] at this
      exact this
    · exact ev_neg c ih
theorem good_writes (O : List IWrite) (hO : O.length ≤ 8) (hs : SrtW O) (hG : ∀ x ∈ O, GoodW x) : Ev (fun k => impl_WritesOk.f k O) true := good_writes0 O hO hs hG O [] rfl
theorem sameW0 (O : List IWrite) (hO : O.length ≤ 1048576) : ∀ (m j : Nat), j + m = O.length → Ev (fun k => laws_sameWrites.l0 k O O (j : Int)) true
  | 0, j, e => by
    refine ev_step ?_
    simp only [laws_sameWrites.l0]
    exact ev_neg (by omega) (Ev.now _)
  | m + 1, j, e => by
    refine ev_step ?_
    simp only [laws_sameWrites.l0]
    rw [next64 _ (by omega)]
    exact ev_pos (by omega) (ev_pos (by omega) (ev_pos (by omega) (ev_neg (by simp) (sameW0 O hO m (j + 1) (by omega)))))
theorem sameW (O : List IWrite) (hO : O.length ≤ 1048576) : Ev (fun k => laws_sameWrites.f k O O) true := by
  unfold laws_sameWrites.f
  exact ev_pos rfl (sameW0 O hO O.length 0 (by omega))
/-- One way through the second loop: the element is there, or the key is the one put. -/
theorem l2_true (b : List Int) (L O : List IWrite) (hL : L.length ≤ 1048576) (hO : O.length ≤ 1048576) (n : Int) (i : Nat) (hi : i < L.length) (w : IWrite) (r : Bool) (h : Ev (fun k => laws_FnWrites.l1 k b L O n ((i + 1 : Nat) : Int) w.f0 w.f1 w.f2) r) : ∀ (m j : Nat), j + m = O.length → Ev (fun k => laws_FnWrites.l2 k b L O n (i : Int) true (j : Int) w.f0 w.f1 w.f2) r
  | 0, j, e => by
    refine ev_step ?_
    simp only [laws_FnWrites.l2]
    rw [next64 i (by omega)]
    exact ev_neg (by omega) (ev_pos (by first | rfl | trivial) h)
  | m + 1, j, e => by
    refine ev_step ?_
    simp only [laws_FnWrites.l2]
    rw [next64 j (by omega)]
    exact ev_pos (by omega) (ev_pos (by first | rfl | trivial) (l2_true b L O hL hO n i hi w r h m (j + 1) (by omega)))
theorem l2_find (b : List Int) (L O : List IWrite) (hL : L.length ≤ 1048576) (hO : O.length ≤ 1048576) (n : Int) (i : Nat) (hi : i < L.length) (x w : IWrite) (hx : rd_T42 L (i : Int) = x) (r : Bool) (h : Ev (fun k => laws_FnWrites.l1 k b L O n ((i + 1 : Nat) : Int) w.f0 w.f1 w.f2) r) : ∀ (rest pre : List IWrite), O = pre ++ rest → x ∈ rest → Ev (fun k => laws_FnWrites.l2 k b L O n (i : Int) false (pre.length : Int) w.f0 w.f1 w.f2) r
  | [], pre, e, hm => by cases hm
  | y :: rest, pre, e, hm => by
    have hg : rd_T42 O (pre.length : Int) = y := by unfold rd_T42; rw [Int.toNat_natCast, e, getD_mid]
    have hlt : (pre.length : Int) < (O.length : Int) := by rw [e]; exact len_mid _ _ _
    refine ev_step ?_
    simp only [laws_FnWrites.l2]
    rw [hg, hx, next64 pre.length (by omega)]
    refine ev_pos hlt (ev_neg (by decide) (ev_pos (by omega) (ev_pos (by omega) (ev_pos (by omega) ?_))))
    by_cases c : y = x
    · subst c
      have e1 : (y.f0.toList == y.f0.toList && (y.f1.toList == y.f1.toList && (y.f2 == y.f2))) = true := by simp
      rw [e1]
      exact l2_true b L O hL hO n i hi w r h rest.length (pre.length + 1) (by rw [e]; simp; omega)
    · have e1 : (y.f0.toList == x.f0.toList && (y.f1.toList == x.f1.toList && (y.f2 == x.f2))) = false := by
        cases q : (y.f0.toList == x.f0.toList && (y.f1.toList == x.f1.toList && (y.f2 == x.f2))) with
        | false => rfl
        | true =>
          simp only [Bool.and_eq_true, beq_iff_eq] at q
          exact absurd (by
            cases y; cases x
            simp only at q
            rw [toList_inj' q.1, toList_inj' q.2.1, q.2.2]) c
      rw [e1]
      have hm2 : x ∈ rest := by
        rcases List.mem_cons.1 hm with h2 | h2
        · exact absurd h2.symm c
        · exact h2
      have ih := l2_find b L O hL hO n i hi x w hx r h rest (pre ++ [y]) (by simp [e]) hm2
      rw [List.length_append, List.length_singleton] at ih
      exact ih
theorem l1_all (b : List Int) (hb : b.length ≤ 1048576) (L : List IWrite) (w : IWrite) (hL : L.length ≤ 4) (hs : SrtW L) (hG : ∀ x ∈ L, GoodW x) (gw : GoodW w) : ∀ (rest pre : List IWrite), L = pre ++ rest → Ev (fun k => laws_FnWrites.l1 k b L (putW w L) 1 (pre.length : Int) w.f0 w.f1 w.f2) true
  | [], pre, e => by
    have hO := putW_length w L
    obtain ⟨T, t1, t2, t3⟩ := draw_wok b hb
    obtain ⟨h0, e0⟩ := draw_new b hb
    obtain ⟨x, y, z, i', h', e1, hx, _⟩ := draw_anyW b 0 h0 hb (cur0 b)
    have d2 : Ev (fun k => spec_DrawWriteOk.f k b) (x, y, z) := by
      unfold spec_DrawWriteOk.f
      exact ev_bind e0 (ev_bind e1 (Ev.now _))
    have p1 := spec_putW w L (by omega)
    have p2 := sameW (putW w L) (by omega)
    have p3 := good_writes (putW w L) (by omega) (putW_srt w L hs) (fun x hx => by
      rcases putW_mem hx with rfl | hx
      · exact gw
      · exact hG x hx)
    obtain ⟨r1, a1, a2⟩ := writesOk_both T (by omega) t3
    obtain ⟨r2, b1, b2⟩ := writeOk_both x y z hx
    refine ev_step ?_
    simp only [laws_FnWrites.l1]
    exact ev_neg (by rw [e]; simp) (ev_bind t1 (ev_bind d2 (ev_pos (by first | rfl | trivial) (ev_bind p1 (ev_bind p2 (ev_pos (by first | rfl | trivial) (ev_bind p3 (ev_pos (by first | rfl | trivial) (ev_bind a2 (ev_bind a1 (ev_pos (beq_self_eq_true _) (ev_bind b2 (ev_bind b1 (ev_now (beq_self_eq_true _)))))))))))))))
  | x :: rest, pre, e => by
    have hO := putW_length w L
    have hg : rd_T42 L (pre.length : Int) = x := by unfold rd_T42; rw [Int.toNat_natCast, e, getD_mid]
    have hlt : (pre.length : Int) < (L.length : Int) := by rw [e]; exact len_mid _ _ _
    have ih := l1_all b hb L w hL hs hG gw rest (pre ++ [x]) (by simp [e])
    rw [List.length_append, List.length_singleton] at ih
    refine ev_step ?_
    simp only [laws_FnWrites.l1]
    rw [hg]
    refine ev_pos hlt (ev_pos (by omega) ?_)
    cases q : (x.f0.toList == w.f0.toList) with
    | true => exact l2_true b L (putW w L) (by omega) (by omega) 1 pre.length (by omega) w true ih (putW w L).length 0 (by omega)
    | false =>
      refine l2_find b L (putW w L) (by omega) (by omega) 1 pre.length (by omega) x w hg true ih (putW w L) [] rfl ?_
      have hx : x ∈ L := by rw [e]; simp
      unfold putW
      cases c : ltW x.f0 w.f0 with
      | true => exact List.mem_append_left _ (List.mem_append_left _ (List.mem_filter.2 ⟨hx, c⟩))
      | false =>
        cases d : ltW w.f0 x.f0 with
        | true => exact List.mem_append_right _ (List.mem_filter.2 ⟨hx, d⟩)
        | false =>
          rw [ltW_eq c d, beq_self_eq_true] at q
          cases q
theorem l0_seg (b : List Int) (L O : List IWrite) (hO : O.length ≤ 1048576) (w : IWrite) (n : Int) (r : Bool) : ∀ (seg pre rest : List IWrite), O = pre ++ seg ++ rest → (∀ x ∈ seg, ¬ x.f0.toList = w.f0.toList) → Ev (fun k => laws_FnWrites.l0 k b L O n ((pre ++ seg).length : Int) w.f0 w.f1 w.f2) r → Ev (fun k => laws_FnWrites.l0 k b L O n (pre.length : Int) w.f0 w.f1 w.f2) r
  | [], pre, rest, e, hk, h => by rw [List.append_nil] at h; exact h
  | x :: seg, pre, rest, e, hk, h => by
    have e2 : O = pre ++ x :: (seg ++ rest) := by rw [e]; simp
    have hg : rd_T42 O (pre.length : Int) = x := by unfold rd_T42; rw [Int.toNat_natCast, e2, getD_mid]
    have hlt : (pre.length : Int) < (O.length : Int) := by rw [e2]; exact len_mid _ _ _
    have ih := l0_seg b L O hO w n r seg (pre ++ [x]) rest (by rw [e]; simp) (fun y hy => hk y (by simp [hy])) (by
      rw [show pre ++ [x] ++ seg = pre ++ x :: seg by simp]
      exact h)
    rw [List.length_append, List.length_singleton] at ih
    refine ev_step ?_
    simp only [laws_FnWrites.l0]
    rw [hg, next64 _ (by omega)]
    exact ev_pos hlt (ev_pos (by omega) (ev_neg (hk x (by simp)) ih))
theorem writes (b : List Int) (hb : b.length ≤ 1048576) : Ev (fun k => laws_FnWrites.f k b) true := by
  obtain ⟨h0, e0⟩ := draw_new b hb
  obtain ⟨w, i1, h1, e1, gw, g1⟩ := draw_write b 0 h0 hb (cur0 b)
  obtain ⟨L, i2, h2, e2, ⟨l1, l2, l3⟩, _⟩ := draw_writes b i1 h1 hb g1
  have d1 : Ev (fun k => spec_DrawPutWrite.f k b) (L, w.f0, w.f1, w.f2) := by
    unfold spec_DrawPutWrite.f
    exact ev_bind e0 (ev_cbind e1 (ev_bind e2 (Ev.now _)))
  have p1 := impl_putW w L (by omega) l2
  have hO := putW_length w L
  have hfin := l1_all b hb L w l1 l2 l3 gw L [] rfl
  have hne : ∀ x : IWrite, (ltW x.f0 w.f0 = true ∨ ltW w.f0 x.f0 = true) → ¬ x.f0.toList = w.f0.toList := by
    intro x hx e
    rw [toList_inj' e, ltW_irr] at hx
    rcases hx with hx | hx <;> cases hx
  have hend : Ev (fun k => laws_FnWrites.l0 k b L (putW w L) 1 ((putW w L).length : Int) w.f0 w.f1 w.f2) true := by
    refine ev_step ?_
    simp only [laws_FnWrites.l0]
    exact ev_neg (by omega) hfin
  have hB := l0_seg b L (putW w L) (by omega) w 1 true (L.filter (fun x => ltW w.f0 x.f0)) (L.filter (fun x => ltW x.f0 w.f0) ++ [w]) [] (by rw [List.append_nil]; rfl) (fun x hx => hne x (.inr (List.mem_filter.1 hx).2)) hend
  have hmid : Ev (fun k => laws_FnWrites.l0 k b L (putW w L) 0 (((L.filter (fun x => ltW x.f0 w.f0)).length : Nat) : Int) w.f0 w.f1 w.f2) true := by
    have e2 : putW w L = L.filter (fun x => ltW x.f0 w.f0) ++ w :: L.filter (fun x => ltW w.f0 x.f0) := by unfold putW; simp
    have hg : rd_T42 (putW w L) (((L.filter (fun x => ltW x.f0 w.f0)).length : Nat) : Int) = w := by unfold rd_T42; rw [Int.toNat_natCast, e2, getD_mid]
    have hlt : (((L.filter (fun x => ltW x.f0 w.f0)).length : Nat) : Int) < ((putW w L).length : Int) := by rw [e2]; exact len_mid _ _ _
    rw [List.length_append, List.length_singleton] at hB
    refine ev_step ?_
    simp only [laws_FnWrites.l0]
    rw [hg, next64 _ (by omega), show wrap64 ((0 : Int) + 1) = 1 from by rw [w64 (by omega) (by omega)]; rfl]
    exact ev_pos hlt (ev_pos (by omega) (ev_pos rfl (ev_neg (by simp) hB)))
  have hA := l0_seg b L (putW w L) (by omega) w 0 true (L.filter (fun x => ltW x.f0 w.f0)) [] ([w] ++ L.filter (fun x => ltW w.f0 x.f0)) (by unfold putW; simp) (fun x hx => hne x (.inl (List.mem_filter.1 hx).2)) (by rw [List.nil_append]; exact hmid)
  unfold laws_FnWrites.f
  exact ev_cbind (a := false) (by unfold laws_big.f; rw [decide_eq_false (by omega)]) (ev_neg (by decide) (ev_bind d1 (ev_bind p1 hA)))

theorem holds : laws_FnWrites.Pure := by
  intro l0 _ h _
  by_cases c : l0.length ≤ 1048576
  · exact ev_at (writes l0 c)
  · refine ⟨0, ?_⟩
    unfold laws_FnWrites.f laws_big.f
    rw [Option.bind_some, decide_eq_true (by omega)]
    rfl
end Go.Proofs.Ytjadloppdbhpiaa.QFnWrites
namespace Go.Proofs.Ytjadloppdbhpiaa.Pure
theorem FnWrites : QFnWrites.laws_FnWrites.Pure := QFnWrites.holds
end Go.Proofs.Ytjadloppdbhpiaa.Pure
