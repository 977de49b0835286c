/- The law FnNumbers answers true at every draw. Conditions: the draw's length as the row gives it. -/
import Derived.Test.YtcclceohmkojgaaDoorQFnNumbersx4
import Derived.Test.YtcclceohmkojgaaDoorAid
namespace Go.Proofs.YtcclceohmkojgaaDoor.Pure
open Go.RowKit Go.Proofs.YtcclceohmkojgaaDoor Go.Proofs.YtcclceohmkojgaaDoor.QFnNumbers Go.Proofs.YtcclceohmkojgaaDoorW.PrintWords Go.Proofs.YtcclceohmkojgaaDoorW.PrintLast Go.Proofs.YtcclceohmkojgaaDoor.Aid Go.Proofs.YtcclceohmkojgaaDoor.Sf
set_option linter.unusedVariables false
/-! the drawing's cursor -/
theorem and255 (n : Int) : 0 ≤ Go.bits .and .i64 n 255 ∧ Go.bits .and .i64 n 255 ≤ 255 := by
  have h255 : (BitVec.ofInt 64 255).toNat = 2 ^ 8 - 1 := by decide
  have key : (BitVec.ofInt 64 n &&& BitVec.ofInt 64 255).toNat = (n % ((2 ^ 64 : Nat) : Int)).toNat % 2 ^ 8 := by
    rw [BitVec.toNat_and, BitVec.toNat_ofInt, h255, Nat.and_two_pow_sub_one_eq_mod]
  have e : Go.bits .and .i64 n 255 = n % 256 := by
    show IntKind.i64.wrap ((BitVec.ofInt 64 n &&& BitVec.ofInt 64 255).toNat : Nat) = n % 256
    rw [key, IntKind.wrap_i64]
    omega
  rw [e]
  omega
def CurOk (b : List Int) (i : Int) : Prop := 0 ≤ i ∧ i ≤ (b.length : Int)
theorem draw_byte (b : List Int) (i h : Int) (hb : b.length ≤ 1048576) (hi : CurOk b i) : ∃ r i' h', spec_l01Byte.f b i h = some (r, i', h') ∧ (0 ≤ r ∧ r ≤ 255) ∧ CurOk b i' := by
  unfold spec_l01Byte.f
  by_cases c : i < (b.length : Int)
  · rw [if_pos c, if_pos hi.1]
    refine ⟨_, _, _, rfl, and255 _, ?_⟩
    unfold CurOk at hi ⊢
    rw [w64 (by omega) (by omega)]
    omega
  · rw [if_neg c]
    exact ⟨_, _, _, rfl, and255 _, hi⟩
theorem draw_below (b : List Int) (i h n : Int) (hb : b.length ≤ 1048576) (hi : CurOk b i) : ∃ r i' h', spec_l01Below.f b i h n = some (r, i', h') ∧ 0 ≤ r ∧ (0 < n → r < n) ∧ (n ≤ 0 → r = 0) ∧ CurOk b i' := by
  unfold spec_l01Below.f
  by_cases c : n ≤ 0
  · rw [if_pos c]
    exact ⟨_, _, _, rfl, Int.le_refl _, fun h => by omega, fun _ => rfl, hi⟩
  rw [if_neg c]
  obtain ⟨r1, i1, h1, e1, q1, g1⟩ := draw_byte b i h hb hi
  by_cases c2 : n ≤ 256
  · rw [if_pos c2, e1, Option.bind_some, if_neg (by omega)]
    exact ⟨_, _, _, rfl, Int.tmod_nonneg _ q1.1, fun _ => Int.tmod_lt_of_pos _ (by omega), fun h => by omega, g1⟩
  · rw [if_neg c2]
    obtain ⟨r2, i2, h2, e2, q2, g2⟩ := draw_byte b i1 h1 hb g1
    obtain ⟨r3, i3, h3, e3, q3, g3⟩ := draw_byte b i2 h2 hb g2
    obtain ⟨r4, i4, h4, e4, q4, g4⟩ := draw_byte b i3 h3 hb g3
    simp only [e1, e2, e3, e4, Option.bind_some]
    rw [if_neg (by omega), w64 (x := r1 * 16777216) (by omega) (by omega), w64 (x := r2 * 65536) (by omega) (by omega), w64 (x := r1 * 16777216 + r2 * 65536) (by omega) (by omega), w64 (x := r3 * 256) (by omega) (by omega), w64 (x := r1 * 16777216 + r2 * 65536 + r3 * 256) (by omega) (by omega), w64 (x := r1 * 16777216 + r2 * 65536 + r3 * 256 + r4) (by omega) (by omega)]
    exact ⟨_, _, _, rfl, Int.tmod_nonneg _ (by omega), fun _ => Int.tmod_lt_of_pos _ (by omega), fun h => by omega, g4⟩
theorem draw_new0 (b : List Int) (hb : b.length ≤ 1048576) : ∀ (m j : Nat) (x : Int), j + m = b.length → ∃ h, Ev (fun k => spec_l01New.l0 k b x (j : Int)) (b, 0, h)
  | 0, j, x, e => by
    refine ⟨x, ev_step ?_⟩
    simp only [spec_l01New.l0]
    exact ev_neg (by omega) (Ev.now _)
  | m + 1, j, x, e => by
    by_cases c : (j : Int) < 4000
    · obtain ⟨h, hh⟩ := draw_new0 b hb m (j + 1) (Go.bits .and .i64 (wrap64 ((wrap64 ((wrap64 (x * 131)) + (wrap64 (rd b (j : Int))))) + 7)) 1073741823) (by omega)
      refine ⟨h, ev_step ?_⟩
      simp only [spec_l01New.l0]
      rw [next64 _ (by omega)]
      exact ev_pos (by omega) (ev_pos c (ev_pos (by omega) hh))
    · refine ⟨x, ev_step ?_⟩
      simp only [spec_l01New.l0]
      exact ev_pos (by omega) (ev_neg c (Ev.now _))
theorem draw_new (b : List Int) (hb : b.length ≤ 1048576) : ∃ h, Ev (fun k => spec_l01New.f k b) (b, 0, h) := draw_new0 b hb b.length 0 _ (by omega)
theorem cur0 (b : List Int) : CurOk b 0 := ⟨Int.le_refl _, by omega⟩
theorem strOfNums_size (x : List Int) : (strOfNums x).size = x.length := by
  show (List.map (fun n : Int => UInt8.ofNat n.toNat) x).toArray.size = _
  simp

theorem draw_text0 (b : List Int) (hb : b.length ≤ 1048576) (N : Nat) (hN : N ≤ 5000) : ∀ (m j : Nat) (x : List Int) (i h : Int), j + m = N → x.length = j → CurOk b i → ∃ s i' h', Ev (fun k => spec_l01Text.l0 k (N : Int) x (j : Int) b i h) (s, i', h') ∧ s.size = N ∧ CurOk b i'
  | 0, j, x, i, h, e, hx, g => by
    refine ⟨strOfNums x, i, h, ev_step ?_, by rw [strOfNums_size]; omega, g⟩
    simp only [spec_l01Text.l0]
    exact ev_neg (by omega) (Ev.now _)
  | m + 1, j, x, i, h, e, hx, g => by
    obtain ⟨r, i1, h1, e1, q1, g1⟩ := draw_byte b i h hb g
    obtain ⟨s, i2, h2, e2, hs, g2⟩ := draw_text0 b hb N hN m (j + 1) (x ++ [r % 256]) i1 h1 (by omega) (by simp [hx]) g1
    refine ⟨s, i2, h2, ev_step ?_, hs, g2⟩
    simp only [spec_l01Text.l0]
    rw [next64 _ (by omega)]
    exact ev_pos (by omega) (ev_cbind e1 (ev_pos (by omega) e2))
theorem draw_text (b : List Int) (i h n : Int) (hb : b.length ≤ 1048576) (hi : CurOk b i) : ∃ s i' h', Ev (fun k => spec_l01Text.f k b i h n) (s, i', h') ∧ (s.size ≤ 5000 ∧ (n ≤ 5000 → s.size = n.toNat)) ∧ CurOk b i' := by
  unfold spec_l01Text.f
  by_cases c : n > 5000
  · obtain ⟨s, i2, h2, e2, hs, g2⟩ := draw_text0 b hb 5000 (by omega) 5000 0 [] i h (by omega) rfl hi
    refine ⟨s, i2, h2, ev_pos c (ev_step ?_), ⟨by omega, fun hn => by omega⟩, g2⟩
    simp only [spec_l01Text.j0]
    exact e2
  · by_cases c2 : n ≤ 0
    · refine ⟨strOfNums [], i, h, ev_neg c (ev_step ?_), ⟨by rw [strOfNums_size]; simp, fun hn => by rw [strOfNums_size]; simp; omega⟩, hi⟩
      simp only [spec_l01Text.j0]
      refine ev_step ?_
      simp only [spec_l01Text.l0]
      exact ev_neg (by omega) (Ev.now _)
    · obtain ⟨N, rfl⟩ : ∃ N : Nat, n = (N : Int) := ⟨n.toNat, by omega⟩
      obtain ⟨s, i2, h2, e2, hs, g2⟩ := draw_text0 b hb N (by omega) N 0 [] i h (by omega) rfl hi
      refine ⟨s, i2, h2, ev_neg c (ev_step ?_), ⟨by omega, fun hn => by omega⟩, g2⟩
      simp only [spec_l01Text.j0]
      exact e2
theorem draw_once (b : List Int) (i h n : Int) (hb : b.length ≤ 1048576) (hi : CurOk b i) : ∃ r i' h', spec_l01Once.f b i h n = some (r, i', h') ∧ CurOk b i' := by
  unfold spec_l01Once.f
  obtain ⟨r, i1, h1, e1, _, _, _, g1⟩ := draw_below b i h n hb hi
  rw [e1, Option.bind_some]
  exact ⟨_, _, _, rfl, g1⟩

theorem draw_pickint (b : List Int) (i h : Int) (l : List Int) (hb : b.length ≤ 1048576) (g : CurOk b i) (h0 : 0 < l.length) : ∃ v i' h', spec_l01PickInt.f b i h l = some (v, i', h') ∧ v ∈ l ∧ CurOk b i' := by
  unfold spec_l01PickInt.f
  obtain ⟨r, i1, h1, e1, q1, q2, _, g1⟩ := draw_below b i h (l.length : Int) hb g
  have q3 := q2 (by omega)
  rw [e1, Option.bind_some, if_pos q1, if_pos q3]
  refine ⟨_, _, _, rfl, ?_, g1⟩
  unfold rd
  have h2 : r.toNat < l.length := by omega
  rw [List.getD_eq_getElem?_getD, List.getElem?_eq_getElem h2, Option.getD_some]
  exact List.getElem_mem h2

/-! long texts of one byte -/
theorem long0 (N : Nat) (x : Int) (hN : N ≤ 1099511627776) : ∀ (m j : Nat), j + m = N → Ev (fun k => spec_l01Long.l0 k (N : Int) x (List.replicate j x ++ List.replicate m 0) (j : Int)) (strOfNums (List.replicate N x))
  | 0, j, e => by
    refine ev_step ?_
    simp only [spec_l01Long.l0]
    obtain rfl : j = N := by omega
    exact ev_neg (by omega) (ev_now (by simp))
  | m + 1, j, e => by
    refine ev_step ?_
    simp only [spec_l01Long.l0]
    have h := long0 N x hN m (j + 1) (by omega)
    have hs : (List.replicate j x ++ List.replicate (m + 1) (0 : Int)).set (j : Int).toNat x = List.replicate (j + 1) x ++ List.replicate m 0 := by
      rw [Int.toNat_natCast, List.set_append_right _ _ (by simp), List.length_replicate, Nat.sub_self, List.replicate_succ, List.set_cons_zero, List.replicate_succ']
      simp
    rw [hs, next64 _ (by omega)]
    exact ev_pos (by omega) (ev_pos (by omega) (ev_pos (by simp; omega) h))
theorem long_ok (N : Nat) (x : Int) (hN : N ≤ 1099511627776) : Ev (fun k => spec_l01Long.f k (N : Int) x) (strOfNums (List.replicate N x)) := by
  unfold spec_l01Long.f
  rw [Int.toNat_natCast]
  have h := long0 N x hN N 0 (by omega)
  exact ev_pos (by omega) (ev_pos (by omega) h)

/-- A number's bytes, seven bits each. -/
def varL (n : Nat) : List Int := if n > 127 then ((n % 128 + 128 : Nat) : Int) :: varL (n / 128) else [(n : Int)]
termination_by n
decreasing_by omega

def varText (n : Int) : ByteArray × Bool := if 0 ≤ n ∧ n ≤ 1000000000 then (strOfNums (varL n.toNat), true) else ((⟨#[]⟩ : ByteArray), false)
theorem impl_var0 : ∀ (n : Nat) (acc : List Int), acc.length + n < 140737488355000 → Ev (fun k => impl_VarText.l0 k (n : Int) acc) ((strOfNums (acc ++ varL n), true)) := by
  intro n
  induction n using Nat.strongRecOn with
  | _ n ih =>
    intro acc hb
    refine ev_step ?_
    simp only [impl_VarText.l0]
    by_cases h : n > 127
    · refine ev_pos (by omega) (ev_pos (by omega) ?_)
      have e1 : wrap64 (Int.tdiv (n : Int) 128) = ((n / 128 : Nat) : Int) := by
        rw [show Int.tdiv (n : Int) 128 = ((n / 128 : Nat) : Int) from rfl, w64 (by omega) (by omega)]
      have e2 : (wrap64 ((Int.tmod (n : Int) 128) + 128)) % 256 = ((n % 128 + 128 : Nat) : Int) := by
        rw [show Int.tmod (n : Int) 128 = ((n % 128 : Nat) : Int) from rfl, w64 (by omega) (by omega)]; omega
      rw [e1, e2]
      have e3 : varL n = ((n % 128 + 128 : Nat) : Int) :: varL (n / 128) := by rw [varL, if_pos h]
      rw [e3]
      have := ih (n / 128) (by omega) (acc ++ [((n % 128 + 128 : Nat) : Int)]) (by simp; omega)
      rw [List.append_assoc] at this
      exact this
    · have e3 : varL n = [(n : Int)] := by rw [varL, if_neg h]
      have e4 : (n : Int) % 256 = (n : Int) := by omega
      rw [e3, e4]
      exact ev_neg (by omega) (ev_pos (by omega) (Ev.now _))

theorem within_true {a b c : Int} (h : b ≤ a) (h2 : a ≤ c) : impl_within.f a b c = some true := by unfold impl_within.f; rw [if_pos h]; simp [h2]
theorem within_false {a b c : Int} (h : ¬ (b ≤ a ∧ a ≤ c)) : impl_within.f a b c = some false := by
  unfold impl_within.f
  by_cases h1 : a ≥ b
  · rw [if_pos h1]; simp; omega
  · rw [if_neg h1]
theorem impl_varText (n : Int) : Ev (fun k => impl_VarText.f k n) (varText n) := by
  unfold impl_VarText.f varText
  by_cases h : 0 ≤ n ∧ n ≤ 1000000000
  · rw [if_pos h]
    refine ev_cbind (within_true h.1 h.2) (ev_pos rfl ?_)
    have := impl_var0 n.toNat [] (by simp; omega)
    rw [Int.toNat_of_nonneg h.1] at this
    exact this
  · rw [if_neg h]
    exact ev_cbind (within_false h) (ev_neg (by simp) (Ev.now _))

/-! a number is read -/
theorem varL_range (n : Nat) : ∀ x ∈ varL n, 0 ≤ x ∧ x ≤ 255 := by
  induction n using Nat.strongRecOn with
  | _ n ih =>
    intro x hx
    rw [varL] at hx
    split at hx
    · rcases List.mem_cons.1 hx with rfl | hx
      · omega
      · exact ih (n / 128) (by omega) x hx
    · rw [List.mem_singleton] at hx
      subst hx; omega
/-- The value of bytes, seven bits each. -/
def valL : List Int → Nat
  | [] => 0
  | b :: l => b.toNat % 128 + 128 * valL l
/-- Bytes that go on, and a last one that doesn't. -/
def Chain : List Int → Prop
  | [] => False
  | [b] => 0 ≤ b ∧ b < 128
  | b :: c :: l => 128 ≤ b ∧ b ≤ 255 ∧ Chain (c :: l)
theorem varL_val : ∀ (l : List Int), Chain l → varL (valL l) = l ∨ (varL (valL l)).length < l.length
  | [], h => h.elim
  | [b], h => by
    left
    have h : 0 ≤ b ∧ b < 128 := h
    have e : valL [b] = b.toNat := by simp only [valL]; omega
    rw [e, varL, if_neg (by omega)]
    congr 1
    omega
  | b :: c :: l, h => by
    obtain ⟨h1, h2, h3⟩ := h
    have ih := varL_val (c :: l) h3
    have ev : valL (b :: c :: l) = b.toNat % 128 + 128 * valL (c :: l) := rfl
    rw [ev]
    generalize valL (c :: l) = v at ih
    by_cases hv : v = 0
    · right
      subst hv
      rw [varL, if_neg (by omega)]
      simp
    · have e1 : (b.toNat % 128 + 128 * v) / 128 = v := by omega
      have e2 : (((b.toNat % 128 + 128 * v) % 128 + 128 : Nat) : Int) = b := by omega
      rw [varL, if_pos (by omega), e1, e2]
      rcases ih with ih | ih
      · left; rw [ih]
      · right; simp at ih ⊢; omega
def bytesAt (s : ByteArray) (a m : Nat) : List Int := (List.range m).map fun (j : Nat) => bt s ((a + j : Nat) : Int)
theorem bt_nat (s : ByteArray) (i : Nat) (h : i < s.size) : bt s (i : Int) = ((s[i]'h).toNat : Int) := by
  unfold bt
  have e : ((i : Nat) : Int).toNat = i := Int.toNat_natCast i
  rw [dif_pos (by rw [e]; exact h)]
  simp only [e]
theorem extract_bytesAt (s : ByteArray) (a m : Nat) (h : a + m ≤ s.size) : s.extract a (a + m) = strOfNums (bytesAt s a m) := by
  apply ByteArray.ext
  apply Array.ext
  · rw [ByteArray.data_extract, Array.size_extract]
    show _ = (strOfNums (bytesAt s a m)).data.size
    have : (strOfNums (bytesAt s a m)).data.size = m := by show (strOfNums (bytesAt s a m)).size = m; rw [strOfNums_size]; simp [bytesAt]
    have h2 : s.data.size = s.size := rfl
    omega
  · intro i h1 h2
    have hz : (strOfNums (bytesAt s a m)).data.size = m := by show (strOfNums (bytesAt s a m)).size = m; rw [strOfNums_size]; simp [bytesAt]
    have hi : i < m := by rw [hz] at h2; exact h2
    have e : (strOfNums (bytesAt s a m)).data[i]'h2 = UInt8.ofNat (bt s ((a + i : Nat) : Int)).toNat := by
      unfold strOfNums bytesAt
      simp
    rw [e, bt_nat s (a + i) (by omega), Int.toNat_natCast, UInt8.ofNat_toNat]
    simp only [ByteArray.data_extract, Array.getElem_extract]
    rfl
theorem strOfNums_inj {a b : List Int} (ha : ∀ x ∈ a, 0 ≤ x ∧ x ≤ 255) (hb : ∀ x ∈ b, 0 ≤ x ∧ x ≤ 255) (h : strOfNums a = strOfNums b) : a = b := by
  have h2 : (strOfNums a).data.toList = (strOfNums b).data.toList := by rw [h]
  rw [strOfNums_data, strOfNums_data] at h2
  clear h
  induction a generalizing b with
  | nil =>
    cases b with
    | nil => rfl
    | cons y b => simp at h2
  | cons x a ih =>
    cases b with
    | nil => simp at h2
    | cons y b =>
      simp only [List.map_cons, List.cons.injEq] at h2
      have hx := ha x (by simp)
      have hy := hb y (by simp)
      have e : x.toNat = y.toNat := by
        have := congrArg UInt8.toNat h2.1
        rw [UInt8.toNat_ofNat', UInt8.toNat_ofNat'] at this
        omega
      rw [ih (fun z hz => ha z (by simp [hz])) (fun z hz => hb z (by simp [hz])) h2.2, show x = y by omega]
theorem bytesAt_range (s : ByteArray) (a m : Nat) : ∀ x ∈ bytesAt s a m, 0 ≤ x ∧ x ≤ 255 := by
  intro x hx
  obtain ⟨j, _, rfl⟩ := List.mem_map.1 hx
  exact bt_range _ _
/-- The walk over at most five bytes: d rounds are left, i bytes are behind, which are n. -/
def rv (s : ByteArray) (a : Nat) : Nat → Nat → Nat → Int × Int × Bool
  | 0, _, _ => (0, 0, false)
  | d + 1, i, n =>
    if a + i < s.size then
      if bt s ((a + i : Nat) : Int) < 128 then
        if n + (bt s ((a + i : Nat) : Int)).toNat % 128 * 128 ^ i ≤ 1000000000 ∧ (varL (n + (bt s ((a + i : Nat) : Int)).toNat % 128 * 128 ^ i)).length = i + 1 then (((n + (bt s ((a + i : Nat) : Int)).toNat % 128 * 128 ^ i : Nat) : Int), ((a + i + 1 : Nat) : Int), true) else (0, 0, false)
      else rv s a d (i + 1) (n + (bt s ((a + i : Nat) : Int)).toNat % 128 * 128 ^ i)
    else (0, 0, false)
def readVarM (s : ByteArray) (a : Int) : Int × Int × Bool := if 0 ≤ a ∧ a ≤ (s.size : Int) then rv s a.toNat 5 0 0 else (0, 0, false)
theorem pow5 (i : Nat) (h : i < 5) : 128 ^ i ≤ 268435456 := by
  have : i = 0 ∨ i = 1 ∨ i = 2 ∨ i = 3 ∨ i = 4 := by omega
  rcases this with rfl | rfl | rfl | rfl | rfl <;> first | decide | (unfold wrap64; decide)
theorem pow_next (i : Nat) (h : i < 5) : wrap64 (((128 ^ i : Nat) : Int) * 128) = ((128 ^ (i + 1) : Nat) : Int) := by
  have : i = 0 ∨ i = 1 ∨ i = 2 ∨ i = 3 ∨ i = 4 := by omega
  rcases this with rfl | rfl | rfl | rfl | rfl <;> first | decide | (unfold wrap64; decide)
theorem mul_small (x p : Nat) (hx : x < 128) (hp : p ≤ 268435456) : x * p ≤ 127 * 268435456 := Nat.mul_le_mul (by omega) hp
theorem shl_pow (x i : Nat) (hx : x < 128) (hi : i < 5) : shl .i64 (x : Int) ((7 * i : Nat) : Int) = ((x * 128 ^ i : Nat) : Int) := by
  have : i = 0 ∨ i = 1 ∨ i = 2 ∨ i = 3 ∨ i = 4 := by omega
  unfold shl IntKind.wrap
  rcases this with rfl | rfl | rfl | rfl | rfl <;> simp [IntKind.bits, IntKind.signed] <;> omega
theorem impl_rv (s : ByteArray) (hs : s.size ≤ 140737488351232) (a : Nat) (ha : a ≤ s.size) : ∀ (d i n : Nat), d + i = 5 → n < 128 ^ i → Ev (fun k => impl_ReadVar.l0 k s (a : Int) (n : Int) (i : Int)) (rv s a d i n) := by
  intro d
  induction d with
  | zero =>
    intro i n hi hn
    refine ev_step ?_
    simp only [impl_ReadVar.l0]
    refine ev_neg (by omega) (ev_step ?_)
    simp only [impl_ReadVar.j1]
    exact ev_neg (by simp) (Ev.now _)
  | succ d ih =>
    intro i n hi hn
    have hp := pow5 i (by omega)
    refine ev_step ?_
    simp only [impl_ReadVar.l0]
    have e1 : wrap64 ((a : Int) + (i : Int)) = ((a + i : Nat) : Int) := by rw [w64 (by omega) (by omega)]; omega
    refine ev_pos (by omega) ?_
    rw [e1]
    refine ev_step ?_
    simp only [impl_ReadVar.j1]
    rw [rv]
    by_cases c1 : a + i < s.size
    · have hb := bt_range s ((a + i : Nat) : Int)
      have hc : wrap64 (bt s ((a + i : Nat) : Int)) = bt s ((a + i : Nat) : Int) := w64 (by omega) (by omega)
      have e2 : wrap64 (7 * (i : Int)) = ((7 * i : Nat) : Int) := by rw [w64 (by omega) (by omega)]; omega
      have e3 : Int.tmod (bt s ((a + i : Nat) : Int)) 128 = (((bt s ((a + i : Nat) : Int)).toNat % 128 : Nat) : Int) := by
        rw [Int.tmod_eq_emod_of_nonneg hb.1]; omega
      have hx : (bt s ((a + i : Nat) : Int)).toNat % 128 < 128 := by omega
      have hm := mul_small _ _ hx hp
      have e4 : wrap64 ((n : Int) + shl .i64 (((bt s ((a + i : Nat) : Int)).toNat % 128 : Nat) : Int) ((7 * i : Nat) : Int)) = ((n + (bt s ((a + i : Nat) : Int)).toNat % 128 * 128 ^ i : Nat) : Int) := by
        rw [shl_pow _ _ hx (by omega), w64 (by omega) (by omega)]; omega
      rw [e1, hc, e2, e3, e4, if_pos c1]
      have hpw : 128 ^ (i + 1) = 128 ^ i * 128 := Nat.pow_succ ..
      clear e4
      generalize 128 ^ i = p at *
      have hl : (bt s ((a + i : Nat) : Int)).toNat % 128 * p ≤ 127 * p := Nat.mul_le_mul_right _ (by omega)
      generalize hQ : (bt s ((a + i : Nat) : Int)).toNat % 128 * p = Q at *
      generalize hM : n + Q = M at *
      rw [decide_eq_true (show ((a + i : Nat) : Int) < (s.size : Int) by omega)]
      refine ev_pos (by first | rfl | trivial) (ev_pos (by omega) (ev_pos (by omega) (ev_pos (by omega) (ev_if (fun c => ?_) (fun c => ?_)))))
      · rw [if_pos c]
        refine ev_bind (impl_varText (M : Int)) ?_
        unfold varText
        by_cases h1 : M ≤ 1000000000
        · rw [if_pos (show 0 ≤ (M : Int) ∧ (M : Int) ≤ 1000000000 by omega), Int.toNat_natCast]
          have e5 : wrap64 ((i : Int) + 1) = ((i + 1 : Nat) : Int) := next64 i (by omega)
          have e6 : wrap64 (((a + i : Nat) : Int) + 1) = ((a + i + 1 : Nat) : Int) := next64 _ (by omega)
          rw [e5, e6]
          refine ev_pos rfl (ev_if (fun h2 => ?_) (fun h2 => ?_))
          · rw [strOfNums_size] at h2
            have h3 : (varL M).length = i + 1 := Int.ofNat_inj.1 h2
            rw [if_pos (And.intro h1 h3)]; exact Ev.now _
          · rw [strOfNums_size] at h2
            have h3 : ¬ (M ≤ 1000000000 ∧ (varL M).length = i + 1) := fun h => h2 (congrArg Int.ofNat h.2)
            rw [if_neg h3]; exact Ev.now _
        · rw [if_neg (show ¬ (0 ≤ (M : Int) ∧ (M : Int) ≤ 1000000000) by omega), if_neg (fun h : M ≤ 1000000000 ∧ (varL M).length = i + 1 => h1 h.1)]
          exact ev_neg (by simp) (Ev.now _)
      · rw [if_neg c, next64 i (by omega)]
        refine ih (i + 1) M (by omega) ?_
        rw [hpw]
        omega
    · rw [decide_eq_false (show ¬ ((a + i : Nat) : Int) < (s.size : Int) by omega), if_neg c1]
      exact ev_neg (by simp) (Ev.now _)
theorem impl_readVar (s : ByteArray) (hs : s.size ≤ 140737488351232) (a : Int) : Ev (fun k => impl_ReadVar.f k s a) (readVarM s a) := by
  unfold impl_ReadVar.f readVarM
  by_cases h : 0 ≤ a ∧ a ≤ (s.size : Int)
  · rw [if_pos h]
    refine ev_cbind (within_true h.1 h.2) (ev_pos rfl ?_)
    have := impl_rv s hs a.toNat (by omega) 5 0 0 (by omega) (by decide)
    rw [Int.toNat_of_nonneg h.1] at this
    exact this
  · rw [if_neg h]
    exact ev_cbind (within_false h) (ev_neg (by simp) (Ev.now _))
/-- What has been read: i bytes that all go on, and their value. -/
def Behind (s : ByteArray) (a i n : Nat) : Prop := ∀ l, Chain l → Chain (bytesAt s a i ++ l) ∧ valL (bytesAt s a i ++ l) = n + valL l * 128 ^ i
theorem bytesAt_succ (s : ByteArray) (a i : Nat) : bytesAt s a (i + 1) = bytesAt s a i ++ [bt s ((a + i : Nat) : Int)] := by
  unfold bytesAt
  rw [List.range_succ, List.map_append]; rfl
theorem behind_zero (s : ByteArray) (a : Nat) : Behind s a 0 0 := by
  intro l hl
  refine ⟨hl, ?_⟩
  show valL l = 0 + valL l * 128 ^ 0
  rw [Nat.pow_zero]; omega
theorem behind_succ (s : ByteArray) (a i n : Nat) (h : Behind s a i n) (hc : ¬ bt s ((a + i : Nat) : Int) < 128) : Behind s a (i + 1) (n + (bt s ((a + i : Nat) : Int)).toNat % 128 * 128 ^ i) := by
  intro l hl
  have hb := bt_range s ((a + i : Nat) : Int)
  rw [bytesAt_succ, List.append_assoc]
  have hl2 : Chain ([bt s ((a + i : Nat) : Int)] ++ l) := by
    cases l with
    | nil => exact hl.elim
    | cons c l => exact ⟨by omega, hb.2, hl⟩
  obtain ⟨h1, h2⟩ := h _ hl2
  refine ⟨h1, ?_⟩
  rw [h2]
  have e : valL ([bt s ((a + i : Nat) : Int)] ++ l) = (bt s ((a + i : Nat) : Int)).toNat % 128 + 128 * valL l := rfl
  rw [e, Nat.add_mul, Nat.pow_succ, Nat.add_assoc]
  congr 2
  rw [Nat.mul_comm 128 (valL l), Nat.mul_assoc, Nat.mul_comm 128]

/-! a short text is read -/
theorem rv_bounds (s : ByteArray) (a : Nat) : ∀ (d i n : Nat), (rv s a d i n).2.2 = true → 0 ≤ (rv s a d i n).1 ∧ (rv s a d i n).1 ≤ 1000000000 ∧ ((a : Int) < (rv s a d i n).2.1) ∧ (rv s a d i n).2.1 ≤ (s.size : Int) := by
  intro d
  induction d with
  | zero => intro i n h; simp [rv] at h
  | succ d ih =>
    intro i n h
    rw [rv] at h ⊢
    generalize n + (bt s ((a + i : Nat) : Int)).toNat % 128 * 128 ^ i = M at *
    split at h
    · rename_i c1
      rw [if_pos c1]
      split at h
      · rename_i c2
        rw [if_pos c2]
        split at h
        · rename_i c3
          rw [if_pos c3]
          obtain ⟨c4, _⟩ := c3
          refine ⟨?_, ?_, ?_, ?_⟩
          · show 0 ≤ (M : Int); omega
          · show (M : Int) ≤ _; omega
          · show (a : Int) < ((a + i + 1 : Nat) : Int); omega
          · show ((a + i + 1 : Nat) : Int) ≤ _; omega
        · simp at h
      · rename_i c2
        rw [if_neg c2]
        exact ih _ _ h
    · simp at h
theorem readVarM_bounds (s : ByteArray) (a : Int) (h : (readVarM s a).2.2 = true) : 0 ≤ a ∧ 0 ≤ (readVarM s a).1 ∧ (readVarM s a).1 ≤ 1000000000 ∧ a < (readVarM s a).2.1 ∧ (readVarM s a).2.1 ≤ (s.size : Int) := by
  unfold readVarM at h ⊢
  split at h
  · rename_i c
    rw [if_pos c]
    have := rv_bounds s a.toNat 5 0 0 h
    refine ⟨c.1, this.1, this.2.1, ?_, this.2.2.2⟩
    have h2 := this.2.2.1
    omega
  · simp at h
def readShortM (s : ByteArray) (a : Int) : ByteArray × Int × Bool :=
  if (readVarM s a).2.2 = true ∧ (readVarM s a).1 ≤ 20000 ∧ (readVarM s a).1 ≤ (s.size : Int) - (readVarM s a).2.1 then (s.extract (readVarM s a).2.1.toNat ((readVarM s a).2.1 + (readVarM s a).1).toNat, (readVarM s a).2.1 + (readVarM s a).1, true) else ((⟨#[]⟩ : ByteArray), 0, false)
theorem impl_readShort (s : ByteArray) (hs : s.size ≤ 140737488351232) (a : Int) : Ev (fun k => impl_ReadShort.f k s a) (readShortM s a) := by
  unfold impl_ReadShort.f readShortM
  have hb := readVarM_bounds s a
  refine ev_bind (impl_readVar s hs a) ?_
  generalize readVarM s a = r at hb ⊢
  obtain ⟨n, next, ok⟩ := r
  refine ev_if (fun h1 => ?_) (fun h1 => ?_)
  · obtain ⟨b1, b2, b3, b4, b5⟩ := hb h1
    have h1' : ok = true := h1
    have b2' : 0 ≤ n := b2
    have b3' : n ≤ 1000000000 := b3
    have b4' : a < next := b4
    have b5' : next ≤ (s.size : Int) := b5
    clear hb b2 b3 b4 b5
    show Ev (fun _ => if n > 20000 then _ else if n > wrap64 ((s.size : Int) - next) then _ else if 0 ≤ next then if next ≤ wrap64 (next + n) then if wrap64 (next + n) ≤ (s.size : Int) then _ else _ else _ else _) (if ok = true ∧ n ≤ 20000 ∧ n ≤ (s.size : Int) - next then (s.extract next.toNat (next + n).toNat, next + n, true) else _)
    rw [w64 (x := (s.size : Int) - next) (by omega) (by omega), w64 (x := next + n) (by omega) (by omega)]
    refine ev_if (fun h2 => ?_) (fun h2 => ev_if (fun h3 => ?_) (fun h3 => ?_))
    · rw [if_neg (fun h => by omega)]; exact Ev.now _
    · rw [if_neg (fun h => by omega)]; exact Ev.now _
    · rw [if_pos (show ok = true ∧ n ≤ 20000 ∧ n ≤ (s.size : Int) - next from ⟨h1', by omega, by omega⟩)]
      exact ev_pos (by omega) (ev_pos (by omega) (ev_pos (by omega) (Ev.now _)))
  · rw [if_neg (fun h => h1 h.1)]; exact Ev.now _

/-! what was written as a number, or as a short text, is read back -/
theorem varL_pos (n : Nat) : 1 ≤ (varL n).length := by
  rw [varL]
  split <;> simp
theorem bytesAt_cons (s : ByteArray) (a m : Nat) : bytesAt s a (m + 1) = bt s ((a : Nat) : Int) :: bytesAt s (a + 1) m := by
  unfold bytesAt
  rw [List.range_succ_eq_map, List.map_cons, List.map_map]
  congr 1
  refine List.map_congr_left fun j _ => ?_
  show bt s ((a + (j + 1) : Nat) : Int) = _
  rw [show a + (j + 1) = a + 1 + j by omega]
theorem rv_back (s : ByteArray) (a : Nat) : ∀ (d i n v : Nat), (varL v).length ≤ d → a + i + (varL v).length ≤ s.size → bytesAt s (a + i) (varL v).length = varL v → n + v * 128 ^ i ≤ 1000000000 → (varL (n + v * 128 ^ i)).length = i + (varL v).length →
    rv s a d i n = (((n + v * 128 ^ i : Nat) : Int), ((a + i + (varL v).length : Nat) : Int), true)
  | 0, i, n, v, h, _, _, _, _ => absurd (varL_pos v) (by omega)
  | d + 1, i, n, v, h, h1, h2, h3, h4 => by
    have hp : 128 ^ (i + 1) = 128 ^ i * 128 := Nat.pow_succ ..
    rw [rv]
    by_cases c : v > 127
    · have e : varL v = ((v % 128 + 128 : Nat) : Int) :: varL (v / 128) := by rw [varL, if_pos c]
      have el : (varL v).length = (varL (v / 128)).length + 1 := by rw [e]; simp
      rw [el] at h h1 h2 h4 ⊢
      rw [e, bytesAt_cons] at h2
      obtain ⟨b1, b2⟩ := List.cons.inj h2
      have ev : n + v % 128 * 128 ^ i + v / 128 * 128 ^ (i + 1) = n + v * 128 ^ i := by
        rw [hp]
        have e3 : v * 128 ^ i = (v % 128 + v / 128 * 128) * 128 ^ i := congrArg (· * 128 ^ i) (by omega)
        rw [e3, Nat.add_mul, Nat.mul_assoc, Nat.mul_comm 128 (128 ^ i)]
        omega
      have e2 : (((v % 128 + 128 : Nat) : Int)).toNat % 128 = v % 128 := by omega
      have ih := rv_back s a d (i + 1) (n + v % 128 * 128 ^ i) (v / 128) (by omega) (by omega) (by rw [← Nat.add_assoc]; exact b2) (by rw [ev]; exact h3) (by rw [ev, h4]; omega)
      rw [ev] at ih
      rw [if_pos (by omega), b1, if_neg (by omega), e2, ih, show a + (i + 1) + (varL (v / 128)).length = a + i + ((varL (v / 128)).length + 1) by omega]
    · have e : varL v = [(v : Int)] := by rw [varL, if_neg c]
      have el : (varL v).length = 1 := by rw [e]; rfl
      rw [el] at h1 h2 h4 ⊢
      rw [e, bytesAt_cons] at h2
      obtain ⟨b1, _⟩ := List.cons.inj h2
      have e2 : ((v : Int)).toNat % 128 = v := by omega
      rw [if_pos (by omega), b1, if_pos (by omega), e2, if_pos ⟨h3, h4⟩]
theorem varL_len (q : Nat) (h : q ≤ 1000000000) : (varL q).length ≤ 5 := by
  have st : ∀ m B : Nat, (∀ v, v < B → (varL v).length ≤ m) → ∀ v, v < B * 128 → (varL v).length ≤ m + 1 := by
    intro m B hB v hv
    rw [varL]
    split
    · have := hB (v / 128) (by omega)
      simp; omega
    · simp
  have h1 : ∀ v, v < 128 → (varL v).length ≤ 1 := by
    intro v hv
    rw [varL, if_neg (by omega)]
    simp
  exact st 4 _ (st 3 _ (st 2 _ (st 1 _ h1))) q (by omega)
theorem readVar_back (s : ByteArray) (a q : Nat) (hq : q ≤ 1000000000) (h1 : a + (varL q).length ≤ s.size) (h2 : bytesAt s a (varL q).length = varL q) : readVarM s (a : Int) = ((q : Int), ((a + (varL q).length : Nat) : Int), true) := by
  unfold readVarM
  rw [if_pos (by omega), Int.toNat_natCast]
  have := rv_back s a 5 0 0 q (varL_len q hq) (by omega) h2 (by omega) (by rw [Nat.pow_zero, Nat.mul_one, Nat.zero_add, Nat.zero_add])
  rw [Nat.pow_zero, Nat.mul_one, Nat.zero_add] at this
  exact this
theorem rv_fwd (s : ByteArray) (a : Nat) : ∀ (d i n : Nat), Behind s a i n → (rv s a d i n).2.2 = true → ∃ q, q ≤ 1000000000 ∧ bytesAt s a (varL q).length = varL q ∧ a + (varL q).length ≤ s.size ∧ rv s a d i n = ((q : Int), ((a + (varL q).length : Nat) : Int), true)
  | 0, i, n, _, h => by simp [rv] at h
  | d + 1, i, n, hb, h => by
    have hr := bt_range s ((a + i : Nat) : Int)
    rw [rv] at h ⊢
    by_cases c1 : a + i < s.size
    · rw [if_pos c1] at h ⊢
      by_cases c2 : bt s ((a + i : Nat) : Int) < 128
      · rw [if_pos c2] at h ⊢
        have hch := hb [bt s ((a + i : Nat) : Int)] ⟨hr.1, c2⟩
        rw [← bytesAt_succ] at hch
        have hv : valL [bt s ((a + i : Nat) : Int)] = (bt s ((a + i : Nat) : Int)).toNat % 128 := by simp only [valL]; omega
        rw [hv] at hch
        generalize n + (bt s ((a + i : Nat) : Int)).toNat % 128 * 128 ^ i = M at h hch ⊢
        by_cases c3 : M ≤ 1000000000 ∧ (varL M).length = i + 1
        · rw [if_pos c3]
          have hvl := varL_val _ hch.1
          rw [hch.2] at hvl
          have hlen : (bytesAt s a (i + 1)).length = i + 1 := by simp [bytesAt]
          rw [hlen] at hvl
          have he : varL M = bytesAt s a (i + 1) := hvl.resolve_right (by omega)
          refine ⟨M, c3.1, ?_, by omega, ?_⟩
          · rw [c3.2]; exact he.symm
          · rw [c3.2, Nat.add_assoc]
        · rw [if_neg c3] at h; cases h
      · rw [if_neg c2] at h ⊢
        exact rv_fwd s a d (i + 1) _ (behind_succ s a i n hb c2) h
    · rw [if_neg c1] at h; cases h
theorem readVar_fwd (s : ByteArray) (a : Int) (h : (readVarM s a).2.2 = true) : ∃ a' q : Nat, a = a' ∧ q ≤ 1000000000 ∧ bytesAt s a' (varL q).length = varL q ∧ a' + (varL q).length ≤ s.size ∧ readVarM s a = ((q : Int), ((a' + (varL q).length : Nat) : Int), true) := by
  unfold readVarM at h ⊢
  by_cases c : 0 ≤ a ∧ a ≤ (s.size : Int)
  · rw [if_pos c] at h ⊢
    obtain ⟨q, h1, h2, h3, h4⟩ := rv_fwd s a.toNat 5 0 0 (behind_zero s _) h
    exact ⟨a.toNat, q, by omega, h1, h2, h3, h4⟩
  · rw [if_neg c] at h; cases h
/-- The bytes of x stand in t at a. -/
def Has (t : ByteArray) (a : Nat) (x : ByteArray) : Prop := a + x.size ≤ t.size ∧ ∀ j : Nat, j < x.size → bt t ((a + j : Nat) : Int) = bt x (j : Int)
theorem bt_ext {x y : ByteArray} (h : x.size = y.size) (hj : ∀ j : Nat, j < x.size → bt x (j : Int) = bt y (j : Int)) : x = y := by
  apply ByteArray.ext
  apply Array.ext
  · exact h
  · intro i h1 h2
    have := hj i h1
    rw [bt_nat x i h1, bt_nat y i h2] at this
    exact UInt8.toNat_inj.1 (Int.ofNat_inj.1 this)
theorem bt_app (x y : ByteArray) (j : Nat) (hj : j < x.size + y.size) : bt (x ++ y) (j : Int) = if j < x.size then bt x (j : Int) else bt y ((j - x.size : Nat) : Int) := by
  rw [bt_nat (x ++ y) j (by rw [ByteArray.size_append]; exact hj)]
  split
  · rename_i c
    rw [bt_nat x j c, ByteArray.getElem_append_left c]
  · rename_i c
    rw [bt_nat y (j - x.size) (by omega), ByteArray.getElem_append_right (by omega)]
theorem bt_ext_at (t : ByteArray) (a b j : Nat) (hb : b ≤ t.size) (hj : a + j < b) : bt (t.extract a b) (j : Int) = bt t ((a + j : Nat) : Int) := by
  have h1 : (t.extract a b).size = b - a := by rw [ByteArray.size_extract]; omega
  rw [bt_nat _ j (by omega), bt_nat t (a + j) (by omega)]
  have e : (t.extract a b)[j]'(by omega) = t[a + j]'(by omega) := by
    show (t.extract a b).data[j]'_ = t.data[a + j]'_
    simp only [ByteArray.data_extract, Array.getElem_extract]
  rw [e]
theorem bt_nums (l : List Int) (hl : ∀ x ∈ l, 0 ≤ x ∧ x ≤ 255) (j : Nat) (hj : j < l.length) : bt (strOfNums l) (j : Int) = l[j] := by
  rw [bt_nat _ j (by rw [strOfNums_size]; exact hj)]
  have hm := hl _ (List.getElem_mem hj)
  have e : (strOfNums l)[j]'(by rw [strOfNums_size]; exact hj) = UInt8.ofNat (l[j]).toNat := by
    unfold strOfNums
    show ((l.map fun x => UInt8.ofNat x.toNat).toArray)[j]'(by simpa using hj) = _
    simp
  rw [e, UInt8.toNat_ofNat']
  omega
theorem has_app (t : ByteArray) (a : Nat) (x y : ByteArray) : Has t a (x ++ y) ↔ Has t a x ∧ Has t (a + x.size) y := by
  constructor
  · rintro ⟨h1, h2⟩
    rw [ByteArray.size_append] at h1 h2
    refine ⟨⟨by omega, fun j hj => ?_⟩, ⟨by omega, fun j hj => ?_⟩⟩
    · rw [h2 j (by omega), bt_app x y j (by omega), if_pos hj]
    · rw [Nat.add_assoc, h2 (x.size + j) (by omega), bt_app x y (x.size + j) (by omega), if_neg (by omega), Nat.add_sub_cancel_left]
  · rintro ⟨⟨h1, h2⟩, h3, h4⟩
    refine ⟨by rw [ByteArray.size_append]; omega, fun j hj => ?_⟩
    rw [ByteArray.size_append] at hj
    rw [bt_app x y j hj]
    split
    · rename_i c
      exact h2 j c
    · rename_i c
      have := h4 (j - x.size) (by omega)
      rw [show a + x.size + (j - x.size) = a + j by omega] at this
      exact this
theorem has_var (t : ByteArray) (a q : Nat) : Has t a (strOfNums (varL q)) ↔ a + (varL q).length ≤ t.size ∧ bytesAt t a (varL q).length = varL q := by
  unfold Has
  rw [strOfNums_size]
  refine and_congr_right fun h1 => ?_
  constructor
  · intro h
    refine List.ext_getElem (by simp [bytesAt]) fun j hj1 hj2 => ?_
    rw [← bt_nums _ (varL_range q) j hj2, ← h j hj2]
    simp [bytesAt]
  · intro h j hj
    rw [bt_nums _ (varL_range q) j hj]
    have e : (bytesAt t a (varL q).length)[j]'(by rw [h]; exact hj) = (varL q)[j] := by simp only [h]
    rw [← e]
    simp [bytesAt]
theorem has_ext (t : ByteArray) (a b : Nat) (hab : a ≤ b) (hb : b ≤ t.size) : Has t a (t.extract a b) := by
  have h1 : (t.extract a b).size = b - a := by rw [ByteArray.size_extract]; omega
  exact ⟨by omega, fun j hj => (bt_ext_at t a b j hb (by omega)).symm⟩
theorem has_eq {t x : ByteArray} {a : Nat} (h : Has t a x) : t.extract a (a + x.size) = x := by
  have h1 : (t.extract a (a + x.size)).size = x.size := by rw [ByteArray.size_extract]; have := h.1; omega
  exact bt_ext h1 fun j hj => (bt_ext_at t a _ j h.1 (by omega)).trans (h.2 j (by omega))
/-- A short text's bytes: its length, and it. -/
def encB (s : ByteArray) : ByteArray := strOfNums (varL s.size) ++ s
theorem readShort_back (t s : ByteArray) (a : Nat) (hs : s.size ≤ 20000) (h : Has t a (encB s)) : readShortM t (a : Int) = (s, ((a + (encB s).size : Nat) : Int), true) := by
  obtain ⟨h1, h2⟩ := (has_app _ _ _ _).1 h
  obtain ⟨v1, v2⟩ := (has_var _ _ _).1 h1
  have hv := readVar_back t a s.size (by omega) v1 v2
  have hz : (encB s).size = (varL s.size).length + s.size := by unfold encB; rw [ByteArray.size_append, strOfNums_size]
  have h3 := h2.1
  have h4 := has_eq h2
  rw [strOfNums_size] at h3 h4
  unfold readShortM
  rw [hv]
  rw [if_pos ⟨rfl, by show (s.size : Int) ≤ 20000; omega, by show (s.size : Int) ≤ (t.size : Int) - ((a + (varL s.size).length : Nat) : Int); omega⟩]
  have e1 : (((a + (varL s.size).length : Nat) : Int) + (s.size : Int)).toNat = a + (varL s.size).length + s.size := by omega
  show (t.extract (((a + (varL s.size).length : Nat) : Int)).toNat (((a + (varL s.size).length : Nat) : Int) + (s.size : Int)).toNat, ((a + (varL s.size).length : Nat) : Int) + (s.size : Int), true) = _
  rw [e1, Int.toNat_natCast, h4, hz]
  congr 2
  omega
theorem readShort_fwd (t : ByteArray) (a : Int) (h : (readShortM t a).2.2 = true) : ∃ (a' : Nat) (s : ByteArray), a = a' ∧ s.size ≤ 20000 ∧ Has t a' (encB s) ∧ readShortM t a = (s, ((a' + (encB s).size : Nat) : Int), true) := by
  unfold readShortM at h ⊢
  by_cases c : (readVarM t a).2.2 = true ∧ (readVarM t a).1 ≤ 20000 ∧ (readVarM t a).1 ≤ (t.size : Int) - (readVarM t a).2.1
  · rw [if_pos c]
    obtain ⟨a', q, rfl, hq, h2, h3, h4⟩ := readVar_fwd t a c.1
    rw [h4] at c ⊢
    obtain ⟨_, c2, c3⟩ := c
    have c2 : (q : Int) ≤ 20000 := c2
    have c3 : (q : Int) ≤ (t.size : Int) - ((a' + (varL q).length : Nat) : Int) := c3
    have e1 : (((a' + (varL q).length : Nat) : Int) + (q : Int)).toNat = a' + (varL q).length + q := by omega
    have hx := has_ext t (a' + (varL q).length) (a' + (varL q).length + q) (by omega) (by omega)
    have hz : (t.extract (a' + (varL q).length) (a' + (varL q).length + q)).size = q := by rw [ByteArray.size_extract]; omega
    refine ⟨a', t.extract (a' + (varL q).length) (a' + (varL q).length + q), rfl, by omega, ?_, ?_⟩
    · unfold encB
      rw [hz]
      exact (has_app _ _ _ _).2 ⟨(has_var _ _ _).2 ⟨h3, h2⟩, by rw [strOfNums_size]; exact hx⟩
    · show (t.extract (((a' + (varL q).length : Nat) : Int)).toNat (((a' + (varL q).length : Nat) : Int) + (q : Int)).toNat, ((a' + (varL q).length : Nat) : Int) + (q : Int), true) = _
      unfold encB
      rw [e1, Int.toNat_natCast, ByteArray.size_append, strOfNums_size, hz]
      congr 2
      omega
  · rw [if_neg c] at h; cases h

def shortText (s : ByteArray) : ByteArray × Bool := if s.size > 20000 then ((⟨#[]⟩ : ByteArray), false) else (strOfNums (varL s.size) ++ s, true)
theorem varL_length (n : Nat) : (varL n).length ≤ n + 1 := by
  induction n using Nat.strongRecOn with
  | _ n ih =>
    rw [varL]
    split
    · have := ih (n / 128) (by omega)
      simp; omega
    · simp
theorem impl_shortText (s : ByteArray) : Ev (fun k => impl_ShortText.f k s) (shortText s) := by
  unfold impl_ShortText.f shortText
  by_cases h : s.size > 20000
  · rw [if_pos h]; exact ev_pos (by omega) (Ev.now _)
  · rw [if_neg h]
    have := varL_length s.size
    have e : varText (s.size : Int) = (strOfNums (varL s.size), true) := by unfold varText; rw [if_pos (by omega)]; rfl
    have h2 := impl_varText (s.size : Int)
    rw [e] at h2
    exact ev_neg (by omega) (ev_bind h2 (ev_pos (by rw [strOfNums_size]; omega) (Ev.now _)))

def HEX : ByteArray := (⟨#[48, 49, 50, 51, 52, 53, 54, 55, 56, 57, 97, 98, 99, 100, 101, 102]⟩ : ByteArray)
/-- Two figures for each byte, from a place on. -/
def hexL (s : ByteArray) : Nat → Nat → List Int
  | 0, _ => []
  | d + 1, i => bt HEX (bt s (i : Int) / 16) :: bt HEX (bt s (i : Int) % 16) :: hexL s d (i + 1)

def hexM (s : ByteArray) : ByteArray × Bool := if s.size > 20000 then ((⟨#[]⟩ : ByteArray), false) else (strOfNums (hexL s s.size 0), true)
theorem impl_hex0 (s : ByteArray) (hs : s.size ≤ 20000) : ∀ (d i : Nat) (acc : List Int), i + d = s.size → acc.length ≤ 2 * i → Ev (fun k => impl_Hex.l0 k s acc (i : Int)) (strOfNums (acc ++ hexL s d i), true) := by
  intro d
  induction d with
  | zero =>
    intro i acc hi ha
    refine ev_step ?_
    simp only [impl_Hex.l0]
    exact ev_neg (by omega) (ev_now (by simp [hexL]))
  | succ d ih =>
    intro i acc hi ha
    have hb := bt_range s (i : Int)
    have e2 : (Int.tdiv (bt s (i : Int)) 16) % 256 = bt s (i : Int) / 16 := by rw [Int.tdiv_eq_ediv_of_nonneg hb.1]; omega
    have e3 : Int.tmod (bt s (i : Int)) 16 = bt s (i : Int) % 16 := Int.tmod_eq_emod_of_nonneg hb.1
    have h := ih (i + 1) (acc ++ [bt HEX (bt s (i : Int) / 16), bt HEX (bt s (i : Int) % 16)]) (by omega) (by simp; omega)
    rw [List.append_assoc] at h
    refine ev_step ?_
    simp only [impl_Hex.l0]
    rw [e2, e3, next64 i (by omega)]
    exact ev_pos (by omega) (ev_pos (by omega) (ev_pos (by omega) (ev_pos (by omega) (ev_pos (by omega) (ev_pos (by omega) (ev_cbind rfl (ev_pos (by simp; omega) h)))))))
theorem impl_hex (s : ByteArray) : Ev (fun k => impl_Hex.f k s) (hexM s) := by
  unfold impl_Hex.f hexM
  by_cases h : s.size > 20000
  · rw [if_pos h]; exact ev_pos (by omega) (Ev.now _)
  · rw [if_neg h]; exact ev_neg (by omega) (impl_hex0 s (by omega) s.size 0 [] (by omega) (by simp))

def valM (c : Int) : Int := if 48 ≤ c ∧ c ≤ 57 then c - 48 else if 97 ≤ c ∧ c ≤ 102 then c - 87 else -1
theorem valM_range (c : Int) : -1 ≤ valM c ∧ valM c ≤ 15 := by
  unfold valM
  split
  · omega
  · split <;> omega
theorem valM_dec (c : Int) (h : 48 ≤ c ∧ c ≤ 57) : valM c = c - 48 := by unfold valM; rw [if_pos h]
theorem valM_let (c : Int) (h1 : ¬ (48 ≤ c ∧ c ≤ 57)) (h : 97 ≤ c ∧ c ≤ 102) : valM c = c - 87 := by unfold valM; rw [if_neg h1, if_pos h]
theorem valM_no (c : Int) (h1 : ¬ (48 ≤ c ∧ c ≤ 57)) (h : ¬ (97 ≤ c ∧ c ≤ 102)) : valM c = -1 := by unfold valM; rw [if_neg h1, if_neg h]
set_option maxRecDepth 20000 in
theorem index_all : ∀ n : Fin 256, Lib.indexByte [48, 49, 50, 51, 52, 53, 54, 55, 56, 57, 97, 98, 99, 100, 101, 102] n.val.toUInt8 = valM (n.val : Int) := by decide +kernel
theorem index_ok (c : Int) (h0 : 0 ≤ c) (h1 : c ≤ 255) : strings_IndexByte.f (⟨#[48, 49, 50, 51, 52, 53, 54, 55, 56, 57, 97, 98, 99, 100, 101, 102]⟩ : ByteArray) c = some (valM c) := by
  unfold strings_IndexByte.f
  have h := index_all ⟨c.toNat, by omega⟩
  have e : ((c.toNat : Nat) : Int) = c := by omega
  rw [show ((⟨c.toNat, by omega⟩ : Fin 256).val : Int) = c from e] at h
  exact congrArg some h
def unhexL (s : ByteArray) : Nat → Nat → List Int → ByteArray × Bool
  | 0, _, acc => (strOfNums acc, true)
  | d + 1, i, acc => if valM (bt s (i : Int)) < 0 ∨ valM (bt s ((i + 1 : Nat) : Int)) < 0 then ((⟨#[]⟩ : ByteArray), false) else unhexL s d (i + 2) (acc ++ [(16 * valM (bt s (i : Int)) + valM (bt s ((i + 1 : Nat) : Int))) % 256])
def unhexM (s : ByteArray) : ByteArray × Bool := if s.size > 40000 ∨ s.size % 2 = 1 then ((⟨#[]⟩ : ByteArray), false) else unhexL s (s.size / 2) 0 []
theorem impl_unhex0 (s : ByteArray) (hs : s.size ≤ 40000) : ∀ (d i : Nat) (acc : List Int) (half : Int), i + 2 * d = s.size → acc.length ≤ i → i % 2 = 0 → Ev (fun k => impl_Unhex.l0 k s acc half (i : Int)) (unhexL s d i acc)
  | 0, i, acc, half, e, hl, hp => by
    refine ev_step ?_
    simp only [impl_Unhex.l0]
    exact ev_neg (by omega) (Ev.now _)
  | d + 1, i, acc, half, e, hl, hp => by
    have b1 := bt_range s (i : Int)
    have b2 := bt_range s ((i + 1 : Nat) : Int)
    have v1 := index_ok _ b1.1 (by omega)
    have v2 := index_ok _ b2.1 (by omega)
    have r1 := valM_range (bt s (i : Int))
    have r2 := valM_range (bt s ((i + 1 : Nat) : Int))
    have ih := fun z => impl_unhex0 s hs d (i + 2) (acc ++ [(16 * valM (bt s (i : Int)) + valM (bt s ((i + 1 : Nat) : Int))) % 256]) z (by omega) (by simp; omega) (by omega)
    have n1 : wrap64 ((i : Int) + 1) = ((i + 1 : Nat) : Int) := next64 i (by omega)
    have n2 : wrap64 (((i + 1 : Nat) : Int) + 1) = ((i + 2 : Nat) : Int) := next64 (i + 1) (by omega)
    have t1 : ¬ Int.tmod (i : Int) 2 = 1 := by rw [show Int.tmod (i : Int) 2 = ((i % 2 : Nat) : Int) from rfl]; omega
    have t2 : Int.tmod ((i + 1 : Nat) : Int) 2 = 1 := by rw [show Int.tmod ((i + 1 : Nat) : Int) 2 = (((i + 1) % 2 : Nat) : Int) from rfl]; omega
    refine ev_step ?_
    simp only [impl_Unhex.l0]
    rw [n1, unhexL]
    generalize hX : valM (bt s (i : Int)) = x at v1 r1 ih
    generalize hY : valM (bt s ((i + 1 : Nat) : Int)) = y at v2 r2 ih
    clear hX hY b1 b2 n1
    refine ev_pos (by omega) (ev_pos (by omega) (ev_cbind v1 ?_))
    by_cases c1 : x < 0
    · rw [if_pos (Or.inl c1)]
      exact ev_pos c1 (Ev.now _)
    · refine ev_neg c1 (ev_neg t1 (ev_step ?_))
      simp only [impl_Unhex.l0]
      rw [n2]
      clear n2
      refine ev_pos (by omega) (ev_pos (by omega) (ev_cbind v2 ?_))
      by_cases c2 : y < 0
      · rw [if_pos (Or.inr c2)]
        exact ev_pos c2 (Ev.now _)
      · rw [if_neg (fun h => h.elim c1 c2), w64 (x := 16 * x) (by omega) (by omega), w64 (x := 16 * x + y) (by omega) (by omega)]
        exact ev_neg c2 (ev_pos t2 (ev_pos (by omega) (ih y)))
theorem impl_unhex (s : ByteArray) : Ev (fun k => impl_Unhex.f k s) (unhexM s) := by
  unfold impl_Unhex.f unhexM
  by_cases c2 : s.size % 2 = 1
  · rw [if_pos (Or.inr c2)]
    refine ev_pos (by omega) (ev_step ?_)
    simp only [impl_Unhex.j0]
    exact ev_pos (by first | rfl | trivial) (Ev.now _)
  · refine ev_neg (by omega) (ev_step ?_)
    simp only [impl_Unhex.j0]
    by_cases c : (s.size : Int) > 40000
    · rw [if_pos (Or.inl (by omega))]
      exact ev_pos (decide_eq_true c) (Ev.now _)
    · rw [if_neg (fun h => h.elim (by omega) c2)]
      refine ev_neg (by rw [decide_eq_true_eq]; exact c) ?_
      exact impl_unhex0 s (by omega) (s.size / 2) 0 [] 0 (by omega) (by simp) (by omega)

/-! the draws -/
theorem draw_number (b : List Int) (i h : Int) (hb : b.length ≤ 1048576) (g : CurOk b i) : ∃ v i' h', spec_l01Number.f b i h = some (v, i', h') := by
  unfold spec_l01Number.f
  obtain ⟨r, i1, h1, e1, _, _, _, g1⟩ := draw_below b i h 4 hb g
  rw [e1, Option.bind_some]
  by_cases c : r = 0
  · obtain ⟨v, i2, h2, e2, _, _⟩ := draw_pickint b i1 h1 [(-1), 0, 127, 128, 16383, 16384, 1000000000, 1000000001, 9223372036854775807, (-9223372036854775808)] hb g1 (by simp)
    rw [if_pos c, e2]
    exact ⟨_, _, _, rfl⟩
  · rw [if_neg c]
    by_cases c2 : r = 1
    · obtain ⟨v, i2, h2, e2, _⟩ := draw_below b i1 h1 1000000000 hb g1
      rw [if_pos c2, e2]
      exact ⟨_, _, _, rfl⟩
    · obtain ⟨v, i2, h2, e2, _⟩ := draw_below b i1 h1 400 hb g1
      rw [if_neg c2, e2]
      exact ⟨_, _, _, rfl⟩
theorem draw_vt (b : List Int) (hb : b.length ≤ 1048576) : ∃ n, Ev (fun k => spec_DrawVarText.f k b) n := by
  obtain ⟨h, e0⟩ := draw_new b hb
  obtain ⟨v, i1, h1, e1⟩ := draw_number b 0 h hb (cur0 b)
  refine ⟨v, ?_⟩
  unfold spec_DrawVarText.f
  exact ev_bind e0 (ev_cbind e1 (Ev.now _))
theorem draw_hex (b : List Int) (hb : b.length ≤ 1048576) : ∃ t, Ev (fun k => spec_DrawHex.f k b) t := by
  obtain ⟨h, e0⟩ := draw_new b hb
  obtain ⟨r, i1, h1, e1, g1⟩ := draw_once b 0 h 60 hb (cur0 b)
  unfold spec_DrawHex.f
  by_cases c : r = true
  · obtain ⟨x, i2, h2, e2, q1, q2, _, g2⟩ := draw_below b i1 h1 2 hb g1
    have q3 := q2 (by decide)
    have el := long_ok (20000 + x).toNat 200 (by omega)
    rw [Int.toNat_of_nonneg (by omega)] at el
    have el2 : Ev (fun k => spec_l01Long.f k (wrap64 (20000 + x)) 200) (strOfNums (List.replicate (20000 + x).toNat 200)) := by
      rw [w64 (x := 20000 + x) (by omega) (by omega)]
      exact el
    exact ⟨_, ev_bind e0 (ev_cbind e1 (ev_pos c (ev_cbind e2 (ev_bind el2 (Ev.now _)))))⟩
  · obtain ⟨x, i2, h2, e2, q1, q2, _, g2⟩ := draw_below b i1 h1 30 hb g1
    obtain ⟨s, i3, h3, e3, _, _⟩ := draw_text b i2 h2 x hb g2
    exact ⟨_, ev_bind e0 (ev_cbind e1 (ev_neg c (ev_cbind e2 (ev_bind e3 (Ev.now _)))))⟩
/-! what was told in figures is told back -/
theorem has_self (t : ByteArray) : Has t 0 t := ⟨by omega, fun j _ => by rw [Nat.zero_add]⟩
theorem val_fig : ∀ n : Fin 16, valM (bt HEX ((n.1 : Nat) : Int)) = ((n.1 : Nat) : Int) := by decide +kernel
theorem val_figure (x : Int) (h0 : 0 ≤ x) (h1 : x < 16) : valM (bt HEX x) = x := by
  have := val_fig ⟨x.toNat, by omega⟩
  simp only at this
  rw [Int.toNat_of_nonneg h0] at this
  exact this
theorem hexL_len (t : ByteArray) : ∀ (d i : Nat), (hexL t d i).length = 2 * d
  | 0, i => rfl
  | d + 1, i => by
    rw [hexL, List.length_cons, List.length_cons, hexL_len t d]
    omega
theorem hexL_range (t : ByteArray) : ∀ (d i : Nat), ∀ x ∈ hexL t d i, 0 ≤ x ∧ x ≤ 255
  | 0, i, x, h => by cases h
  | d + 1, i, x, h => by
    rw [hexL] at h
    rcases List.mem_cons.1 h with rfl | h
    · exact bt_range _ _
    · rcases List.mem_cons.1 h with rfl | h
      · exact bt_range _ _
      · exact hexL_range t d (i + 1) x h
theorem hexL_get (t : ByteArray) : ∀ (d i j : Nat), j < d → (hexL t d i)[2 * j]? = some (bt HEX (bt t ((i + j : Nat) : Int) / 16)) ∧ (hexL t d i)[2 * j + 1]? = some (bt HEX (bt t ((i + j : Nat) : Int) % 16))
  | 0, i, j, h => absurd h (by omega)
  | d + 1, i, 0, h => ⟨rfl, rfl⟩
  | d + 1, i, j + 1, h => by
    have ih := hexL_get t d (i + 1) j (by omega)
    rw [show i + 1 + j = i + (j + 1) by omega] at ih
    rw [hexL, show 2 * (j + 1) = 2 * j + 1 + 1 by omega]
    exact ih
theorem bt_hex (t : ByteArray) (j : Nat) (h : j < t.size) : bt (strOfNums (hexL t t.size 0)) ((2 * j : Nat) : Int) = bt HEX (bt t (j : Int) / 16) ∧ bt (strOfNums (hexL t t.size 0)) ((2 * j + 1 : Nat) : Int) = bt HEX (bt t (j : Int) % 16) := by
  have hl := hexL_len t t.size 0
  obtain ⟨g1, g2⟩ := hexL_get t t.size 0 j h
  rw [Nat.zero_add] at g1 g2
  rw [bt_nums _ (hexL_range t _ _) (2 * j) (by omega), bt_nums _ (hexL_range t _ _) (2 * j + 1) (by omega)]
  rw [List.getElem?_eq_getElem (by omega)] at g1 g2
  exact ⟨Option.some.inj g1, Option.some.inj g2⟩
theorem unhex_back (t : ByteArray) : ∀ (d i : Nat), i + d = t.size → unhexL (strOfNums (hexL t t.size 0)) d (2 * i) (bytesAt t 0 i) = (strOfNums (bytesAt t 0 t.size), true)
  | 0, i, h => by
    rw [unhexL, show i = t.size by omega]
  | d + 1, i, h => by
    obtain ⟨h1, h2⟩ := bt_hex t i (by omega)
    have hb := bt_range t (i : Int)
    have ih := unhex_back t d (i + 1) (by omega)
    rw [bytesAt_succ, Nat.zero_add] at ih
    have e : (16 * (bt t (i : Int) / 16) + bt t (i : Int) % 16) % 256 = bt t (i : Int) := by omega
    rw [unhexL, h1, h2, val_figure _ (by omega) (by omega), val_figure _ (by omega) (by omega), if_neg (by omega), e]
    exact ih
theorem unhex_hex (t : ByteArray) (h : t.size ≤ 20000) : unhexM (hexM t).1 = (t, true) ∧ (hexM t).2 = true := by
  have e : hexM t = (strOfNums (hexL t t.size 0), true) := by unfold hexM; rw [if_neg (by omega)]
  have hz : (strOfNums (hexL t t.size 0)).size = 2 * t.size := by rw [strOfNums_size, hexL_len]
  refine ⟨?_, by rw [e]⟩
  rw [e]
  show unhexM (strOfNums (hexL t t.size 0)) = _
  unfold unhexM
  rw [hz, if_neg (by omega), show 2 * t.size / 2 = t.size by omega]
  have h2 := unhex_back t t.size 0 (by omega)
  have h3 := extract_bytesAt t 0 t.size (by omega)
  rw [← h3] at h2
  rw [Nat.zero_add] at h2
  have e3 : t.extract 0 t.size = t := by
    have := has_eq (has_self t)
    rw [Nat.zero_add] at this
    exact this
  rw [e3] at h2
  exact h2
theorem end_ok (x3 : Int) (h0 : 0 ≤ x3) (h1 : x3 ≤ 1000000000) (t : ByteArray) (ht : t.size ≤ 300) : Ev (fun k => laws_FnNumbers.j2 k x3 (varText x3).1 true x3 (((varText x3).1.size + 1 : Nat) : Int) true x3 true t) true := by
  obtain ⟨u1, u2⟩ := unhex_hex t (by omega)
  have es : shortText t = (encB t, true) := by unfold shortText encB; rw [if_neg (by omega)]
  have hz : (encB t).size ≤ 600 := by
    unfold encB
    rw [ByteArray.size_append, strOfNums_size]
    have := varL_len t.size (by omega)
    omega
  have er := readShort_back (encB t) t 0 (by omega) (has_self _)
  rw [Nat.zero_add] at er
  have b1 := impl_shortText t
  have b2 := impl_readShort (encB t) (by omega) 0
  have b3 := impl_hex t
  have b4 := impl_unhex (hexM t).1
  rw [es] at b1
  rw [show ((0 : Nat) : Int) = 0 from rfl] at er
  rw [er] at b2
  rw [u1] at b4
  generalize hexM t = hx at u2 b3 b4
  have hv : (varText x3).1.size ≤ 5 := by
    unfold varText
    rw [if_pos ⟨h0, h1⟩]
    show (strOfNums (varL x3.toNat)).size ≤ 5
    rw [strOfNums_size]
    exact varL_len _ (by omega)
  refine ev_step ?_
  simp only [laws_FnNumbers.j2]
  rw [w64 (x := ((varText x3).1.size : Int) + 1) (by omega) (by omega)]
  refine ev_bind b1 (ev_bind b2 (ev_bind b3 (ev_bind b4 (ev_pos (by first | rfl | trivial) (ev_pos (by first | rfl | trivial) (ev_pos (by first | rfl | trivial) (ev_pos (by first | rfl | trivial) (ev_pos (by first | rfl | trivial) (ev_pos u2 (ev_pos (by first | rfl | trivial) (ev_pos (by first | rfl | trivial) (ev_pos (by first | rfl | trivial) (ev_pos (by omega) (ev_pos (by first | rfl | trivial) (ev_pos (by first | rfl | trivial) (ev_now ?_))))))))))))))))
  congr 1
  simp
theorem body_ok (b : List Int) (hb : b.length ≤ 1048576) (x3 : Int) (h0 : 0 ≤ x3) (h1 : x3 ≤ 1000000000) : Ev (fun k => laws_FnNumbers.j1 k b x3) true := by
  obtain ⟨t, et⟩ := draw_hex b hb
  have ev : varText x3 = (strOfNums (varL x3.toNat), true) := by unfold varText; rw [if_pos ⟨h0, h1⟩]
  have hv := varL_len x3.toNat (by omega)
  have b1 := impl_varText x3
  have fin := fun t' (ht : t'.size ≤ 300) => end_ok x3 h0 h1 t' ht
  rw [ev] at b1 fin
  generalize hs : strOfNums (varL x3.toNat) = s at b1 fin
  have hz : s.size = (varL x3.toNat).length := by rw [← hs, strOfNums_size]
  have hh := (has_app _ _ _ _).1 (((has_app _ _ _ _).1 (has_self (((⟨#[120]⟩ : ByteArray) ++ s) ++ (⟨#[121]⟩ : ByteArray)))).1)
  have h2 := hh.2
  rw [← hs] at h2
  obtain ⟨v1, v2⟩ := (has_var _ _ _).1 h2
  have er := readVar_back _ _ x3.toNat (by omega) v1 v2
  rw [hs] at er
  have hz2 : ((((⟨#[120]⟩ : ByteArray) ++ s) ++ (⟨#[121]⟩ : ByteArray)) : ByteArray).size ≤ 10 := by
    rw [ByteArray.size_append, ByteArray.size_append]
    show 1 + s.size + 1 ≤ 10
    omega
  have hz1 : ((⟨#[120]⟩ : ByteArray) ++ s).size ≤ 9 := by
    rw [ByteArray.size_append]
    show 1 + s.size ≤ 9
    omega
  have b2 := impl_readVar (((⟨#[120]⟩ : ByteArray) ++ s) ++ (⟨#[121]⟩ : ByteArray)) (by omega) 1
  have e1 : ((0 + (⟨#[120]⟩ : ByteArray).size : Nat) : Int) = 1 := rfl
  rw [e1] at er
  rw [er] at b2
  have e2 : ((0 + (⟨#[120]⟩ : ByteArray).size + (varL x3.toNat).length : Nat) : Int) = ((s.size + 1 : Nat) : Int) := by
    show ((0 + 1 + (varL x3.toNat).length : Nat) : Int) = _
    omega
  have e3 : ((x3.toNat : Nat) : Int) = x3 := by omega
  rw [e2, e3] at b2
  have d1 : impl_Decimal.f x3 = some (⟨(Lib.itoa x3).toArray⟩ : ByteArray) := by unfold impl_Decimal.f; exact if_pos (by omega)
  have hi : Lib.itoa x3 = Lib.decDigits x3.toNat := by
    have := Lib.itoa_nonneg x3.toNat
    rw [e3] at this
    exact this
  have hl := QFnExactReadDecimal.digits_len x3.toNat (by omega)
  have d2 : impl_ReadDecimal.f (⟨(Lib.itoa x3).toArray⟩ : ByteArray) = some (x3, true) := by
    unfold impl_ReadDecimal.f
    rw [if_pos (by rw [hi]; show (Lib.decDigits x3.toNat).length ≤ 1048576; omega)]
    congr 1
    unfold QFnExactReadDecimal.rdM
    have ea : Lib.atoiAll (⟨(Lib.itoa x3).toArray⟩ : ByteArray).data.toList = .ok x3 := by
      show Lib.atoiAll (Lib.itoa x3) = _
      rw [hi, QFnExactReadDecimal.atoi_digits x3.toNat (by omega), e3]
    rw [ea]
    show (if _ then (if _ then (x3, true) else _) else _) = _
    rw [if_pos rfl, if_pos ⟨h0, h1⟩]
  refine ev_step ?_
  simp only [laws_FnNumbers.j1]
  refine ev_bind b1 (ev_pos (by show 1 + s.size ≤ _; omega) (ev_pos (by show ((⟨#[120]⟩ : ByteArray) ++ s).size + 1 ≤ _; omega) (ev_bind b2 (ev_cbind d1 (ev_cbind d2 (ev_bind et (ev_if (fun c => ?_) (fun c => ?_))))))))
  · exact fin _ (by decide)
  · exact fin t (by omega)
theorem FnNumbers : laws_FnNumbers.Pure := by
  intro b hm hl hw
  refine ev_at ?_
  unfold laws_FnNumbers.f
  refine ev_cbind (show laws_big.f b = some (decide ((b.length : Int) > 1048576)) by unfold laws_big.f; first | rfl | simp) (ev_if (fun _ => Ev.now _) (fun c => ?_))
  rw [decide_eq_true_eq] at c
  obtain ⟨n, en⟩ := draw_vt b (by omega)
  have j0 : ∀ v, (v = false → 0 ≤ n ∧ n ≤ 1000000000) → Ev (fun k => laws_FnNumbers.j0 k b n v) true := by
    intro v hv
    refine ev_step ?_
    simp only [laws_FnNumbers.j0]
    refine ev_if (fun _ => body_ok b (by omega) 12345 (by decide) (by decide)) (fun c2 => ?_)
    have h2 := hv (by simpa using c2)
    exact body_ok b (by omega) n h2.1 h2.2
  refine ev_bind en (ev_if (fun c2 => j0 true (fun h => by cases h)) (fun c2 => j0 _ (fun h => ?_)))
  rw [decide_eq_false_iff_not] at h
  omega
end Go.Proofs.YtcclceohmkojgaaDoor.Pure
