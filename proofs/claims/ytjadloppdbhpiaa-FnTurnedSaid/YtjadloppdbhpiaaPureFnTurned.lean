/- The law FnTurned answers true at every draw. Conditions: the draw's length as the row gives it. -/
import Derived.Test.YtjadloppdbhpiaaQFnTurnedx2
import Derived.Test.YtjadloppdbhpiaaAid
namespace Go.Proofs.Ytjadloppdbhpiaa.QFnTurned
open Go.RowKit Go.Proofs.YtjadloppdbhpiaaW.PrintWords Go.Proofs.YtjadloppdbhpiaaW.PrintLast Go.Proofs.Ytjadloppdbhpiaa.Aid
set_option linter.unusedVariables false
/-! the drawing's cursor -/
theorem and255 (n : Int) : 0 ≤ Go.bits .and .i64 n 255 ∧ Go.bits .and .i64 n 255 ≤ 255 := by
  have h255 : (BitVec.ofInt 64 255).toNat = 2 ^ 8 - 1 := by decide
  have key : (BitVec.ofInt 64 n &&& BitVec.ofInt 64 255).toNat = (n % ((2 ^ 64 : Nat) : Int)).toNat % 2 ^ 8 := by
    rw [BitVec.toNat_and, BitVec.toNat_ofInt, h255, Nat.and_two_pow_sub_one_eq_mod]
  have e : Go.bits .and .i64 n 255 = n % 256 := by
    show IntKind.i64.wrap ((BitVec.ofInt 64 n &&& BitVec.ofInt 64 255).toNat : Nat) = n % 256
    rw [key, IntKind.wrap_i64]
    omega
  rw [e]
  omega
def CurOk (b : List Int) (i : Int) : Prop := 0 ≤ i ∧ i ≤ (b.length : Int)
theorem draw_byte (b : List Int) (i h : Int) (hb : b.length ≤ 1048576) (hi : CurOk b i) : ∃ r i' h', spec_l01Byte.f b i h = some (r, i', h') ∧ (0 ≤ r ∧ r ≤ 255) ∧ CurOk b i' := by
  unfold spec_l01Byte.f
  by_cases c : i < (b.length : Int)
  · rw [if_pos c, if_pos hi.1]
    refine ⟨_, _, _, rfl, and255 _, ?_⟩
    unfold CurOk at hi ⊢
    rw [w64 (by omega) (by omega)]
    omega
  · rw [if_neg c]
    exact ⟨_, _, _, rfl, and255 _, hi⟩
theorem draw_below (b : List Int) (i h n : Int) (hb : b.length ≤ 1048576) (hi : CurOk b i) : ∃ r i' h', spec_l01Below.f b i h n = some (r, i', h') ∧ 0 ≤ r ∧ (0 < n → r < n) ∧ (n ≤ 0 → r = 0) ∧ CurOk b i' := by
  unfold spec_l01Below.f
  by_cases c : n ≤ 0
  · rw [if_pos c]
    exact ⟨_, _, _, rfl, Int.le_refl _, fun h => by omega, fun _ => rfl, hi⟩
  rw [if_neg c]
  obtain ⟨r1, i1, h1, e1, q1, g1⟩ := draw_byte b i h hb hi
  by_cases c2 : n ≤ 256
  · rw [if_pos c2, e1, Option.bind_some, if_neg (by omega)]
    exact ⟨_, _, _, rfl, Int.tmod_nonneg _ q1.1, fun _ => Int.tmod_lt_of_pos _ (by omega), fun h => by omega, g1⟩
  · rw [if_neg c2]
    obtain ⟨r2, i2, h2, e2, q2, g2⟩ := draw_byte b i1 h1 hb g1
    obtain ⟨r3, i3, h3, e3, q3, g3⟩ := draw_byte b i2 h2 hb g2
    obtain ⟨r4, i4, h4, e4, q4, g4⟩ := draw_byte b i3 h3 hb g3
    simp only [e1, e2, e3, e4, Option.bind_some]
    rw [if_neg (by omega), w64 (x := r1 * 16777216) (by omega) (by omega), w64 (x := r2 * 65536) (by omega) (by omega), w64 (x := r1 * 16777216 + r2 * 65536) (by omega) (by omega), w64 (x := r3 * 256) (by omega) (by omega), w64 (x := r1 * 16777216 + r2 * 65536 + r3 * 256) (by omega) (by omega), w64 (x := r1 * 16777216 + r2 * 65536 + r3 * 256 + r4) (by omega) (by omega)]
    exact ⟨_, _, _, rfl, Int.tmod_nonneg _ (by omega), fun _ => Int.tmod_lt_of_pos _ (by omega), fun h => by omega, g4⟩
theorem draw_new0 (b : List Int) (hb : b.length ≤ 1048576) : ∀ (m j : Nat) (x : Int), j + m = b.length → ∃ h, Ev (fun k => spec_l01New.l0 k b x (j : Int)) (b, 0, h)
  | 0, j, x, e => by
    refine ⟨x, ev_step ?_⟩
    simp only [spec_l01New.l0]
    exact ev_neg (by omega) (Ev.now _)
  | m + 1, j, x, e => by
    by_cases c : (j : Int) < 4000
    · obtain ⟨h, hh⟩ := draw_new0 b hb m (j + 1) (Go.bits .and .i64 (wrap64 ((wrap64 ((wrap64 (x * 131)) + (wrap64 (rd b (j : Int))))) + 7)) 1073741823) (by omega)
      refine ⟨h, ev_step ?_⟩
      simp only [spec_l01New.l0]
      rw [next64 _ (by omega)]
      exact ev_pos (by omega) (ev_pos c (ev_pos (by omega) hh))
    · refine ⟨x, ev_step ?_⟩
      simp only [spec_l01New.l0]
      exact ev_pos (by omega) (ev_neg c (Ev.now _))
theorem draw_new (b : List Int) (hb : b.length ≤ 1048576) : ∃ h, Ev (fun k => spec_l01New.f k b) (b, 0, h) := draw_new0 b hb b.length 0 _ (by omega)
theorem cur0 (b : List Int) : CurOk b 0 := ⟨Int.le_refl _, by omega⟩
theorem strOfNums_size (x : List Int) : (strOfNums x).size = x.length := by
  show (List.map (fun n : Int => UInt8.ofNat n.toNat) x).toArray.size = _
  simp

theorem draw_text0 (b : List Int) (hb : b.length ≤ 1048576) (N : Nat) (hN : N ≤ 5000) : ∀ (m j : Nat) (x : List Int) (i h : Int), j + m = N → x.length = j → CurOk b i → ∃ s i' h', Ev (fun k => spec_l01Text.l0 k (N : Int) x (j : Int) b i h) (s, i', h') ∧ s.size = N ∧ CurOk b i'
  | 0, j, x, i, h, e, hx, g => by
    refine ⟨strOfNums x, i, h, ev_step ?_, by rw [strOfNums_size]; omega, g⟩
    simp only [spec_l01Text.l0]
    exact ev_neg (by omega) (Ev.now _)
  | m + 1, j, x, i, h, e, hx, g => by
    obtain ⟨r, i1, h1, e1, q1, g1⟩ := draw_byte b i h hb g
    obtain ⟨s, i2, h2, e2, hs, g2⟩ := draw_text0 b hb N hN m (j + 1) (x ++ [r % 256]) i1 h1 (by omega) (by simp [hx]) g1
    refine ⟨s, i2, h2, ev_step ?_, hs, g2⟩
    simp only [spec_l01Text.l0]
    rw [next64 _ (by omega)]
    exact ev_pos (by omega) (ev_cbind e1 (ev_pos (by omega) e2))
theorem draw_text (b : List Int) (i h n : Int) (hb : b.length ≤ 1048576) (hi : CurOk b i) : ∃ s i' h', Ev (fun k => spec_l01Text.f k b i h n) (s, i', h') ∧ (s.size ≤ 5000 ∧ (n ≤ 5000 → s.size = n.toNat)) ∧ CurOk b i' := by
  unfold spec_l01Text.f
  by_cases c : n > 5000
  · obtain ⟨s, i2, h2, e2, hs, g2⟩ := draw_text0 b hb 5000 (by omega) 5000 0 [] i h (by omega) rfl hi
    refine ⟨s, i2, h2, ev_pos c (ev_step ?_), ⟨by omega, fun hn => by omega⟩, g2⟩
    simp only [spec_l01Text.j0]
    exact e2
  · by_cases c2 : n ≤ 0
    · refine ⟨strOfNums [], i, h, ev_neg c (ev_step ?_), ⟨by rw [strOfNums_size]; simp, fun hn => by rw [strOfNums_size]; simp; omega⟩, hi⟩
      simp only [spec_l01Text.j0]
      refine ev_step ?_
      simp only [spec_l01Text.l0]
      exact ev_neg (by omega) (Ev.now _)
    · obtain ⟨N, rfl⟩ : ∃ N : Nat, n = (N : Int) := ⟨n.toNat, by omega⟩
      obtain ⟨s, i2, h2, e2, hs, g2⟩ := draw_text0 b hb N (by omega) N 0 [] i h (by omega) rfl hi
      refine ⟨s, i2, h2, ev_neg c (ev_step ?_), ⟨by omega, fun hn => by omega⟩, g2⟩
      simp only [spec_l01Text.j0]
      exact e2

/-- One half step of a sum. -/
def sumHalf (x : Int) : Int := if (Int.tmod x 2) = 1 then (Go.bits .xor .u32 ((Int.tdiv x 2) % 4294967296) 3558460437) else ((Int.tdiv x 2) % 4294967296)
def halves : Nat → Int → Int
  | 0, x => x
  | n + 1, x => halves n (sumHalf x)
def sumByte (x b : Int) : Int := halves 8 (Go.bits .xor .u32 x (b % 4294967296))
/-- The sum from a place on. -/
def sumFrom (s : ByteArray) : Nat → Nat → Int → Int
  | 0, _, x => x
  | d + 1, i, x => sumFrom s d (i + 1) (sumByte x (bt s i))

theorem impl_sum1 (s : ByteArray) (i : Int) (r : Int) : ∀ (j : Nat) (x : Int), j ≤ 8 → Ev (fun k => impl_SumMore.l0 k (halves j x) s (wrap64 (i + 1))) r → Ev (fun k => impl_SumMore.l1 k x s i (8 - (j : Int))) r := by
  intro j
  induction j with
  | zero =>
    intro x _ h
    refine ev_step ?_
    simp only [impl_SumMore.l1]
    exact ev_neg (by omega) h
  | succ j ih =>
    intro x hj h
    refine ev_step ?_
    simp only [impl_SumMore.l1]
    have e : wrap64 (8 - ((j + 1 : Nat) : Int) + 1) = 8 - (j : Int) := by rw [w64 (by omega) (by omega)]; omega
    rw [e]
    refine ev_pos (by omega) (ev_if (fun hc => ?_) (fun hc => ?_))
    · refine ih _ (by omega) ?_
      have e2 : halves (j + 1) x = halves j (Go.bits .xor .u32 ((Int.tdiv x 2) % 4294967296) 3558460437) := by simp only [halves, sumHalf, if_pos hc]
      rw [← e2]; exact h
    · refine ih _ (by omega) ?_
      have e2 : halves (j + 1) x = halves j ((Int.tdiv x 2) % 4294967296) := by simp only [halves, sumHalf, if_neg hc]
      rw [← e2]; exact h
theorem impl_sum0 (s : ByteArray) (hs : s.size ≤ 140737488351232) : ∀ (d i : Nat) (x : Int), i + d = s.size → Ev (fun k => impl_SumMore.l0 k x s i) (sumFrom s d i x) := by
  intro d
  induction d with
  | zero =>
    intro i x hi
    refine ev_step ?_
    simp only [impl_SumMore.l0]
    exact ev_neg (by omega) (Ev.now _)
  | succ d ih =>
    intro i x hi
    refine ev_step ?_
    simp only [impl_SumMore.l0]
    refine ev_pos (by omega) (ev_pos (by omega) ?_)
    have e : wrap64 ((i : Int) + 1) = ((i + 1 : Nat) : Int) := by rw [w64 (by omega) (by omega)]; omega
    refine impl_sum1 s i _ 8 _ (by omega) ?_
    rw [e]
    exact ih (i + 1) _ (by omega)
theorem impl_sum (s : ByteArray) (hs : s.size ≤ 140737488351232) (x : Int) : Ev (fun k => impl_SumMore.f k x s) (sumFrom s s.size 0 x) := impl_sum0 s hs s.size 0 x (by omega)

theorem impl_sumOf (s : ByteArray) (hs : s.size ≤ 140737488351232) : Ev (fun k => impl_SumOf.f k s) (sumFrom s s.size 0 4294967295) := by
  unfold impl_SumOf.f
  exact ev_bind (impl_sum s hs _) (Ev.now _)

/-- A sum in four bytes. -/
def four (x : Int) : ByteArray := strOfNums (([(x / 16777216) % 256, (x / 65536) % 256, (x / 256) % 256, (x) % 256] : List Int))
theorem four_size (x : Int) : (four x).size = 4 := by unfold four; rw [strOfNums_size]; rfl
def sumOf (s : ByteArray) : Int := sumFrom s s.size 0 4294967295
def sealedM (s : ByteArray) : ByteArray × Bool := if s.size > 20000 then ((⟨#[]⟩ : ByteArray), false) else (s ++ four (sumOf s), true)

theorem impl_sealed (s : ByteArray) (hs : s.size ≤ 140737488351232) : Ev (fun k => impl_Sealed.f k s) (sealedM s) := by
  unfold impl_Sealed.f sealedM
  by_cases h : s.size > 20000
  · rw [if_pos h]; exact ev_pos (by omega) (Ev.now _)
  · rw [if_neg h]
    refine ev_neg (by omega) (ev_bind (impl_sumOf s hs) (ev_cbind rfl (ev_pos ?_ (Ev.now _))))
    rw [strOfNums_size]; simp; omega

/-- The first bytes of a text, and the rest. -/
theorem extract_split (s : ByteArray) (n : Nat) (h : n ≤ s.size) : s.extract 0 n ++ s.extract n s.size = s := by
  rw [ByteArray.extract_append_extract]
  have e1 : min 0 n = 0 := by omega
  have e2 : max n s.size = s.size := by omega
  rw [e1, e2, ByteArray.extract_zero_size]
theorem toList_inj {a b : ByteArray} (h : a.toList = b.toList) : a = b := by
  rw [ByteArray.toList_eq, ByteArray.toList_eq] at h
  exact ByteArray.ext (Array.toList_inj.1 h)
theorem toList_iff {a b : ByteArray} : a.toList = b.toList ↔ a = b := ⟨toList_inj, fun h => by rw [h]⟩
def unsealedM (s : ByteArray) : ByteArray × Bool := if s.size < 4 ∨ s.size > 20004 then ((⟨#[]⟩ : ByteArray), false) else if s.extract (s.size - 4) s.size = four (sumOf (s.extract 0 (s.size - 4))) then (s.extract 0 (s.size - 4), true) else ((⟨#[]⟩ : ByteArray), false)
theorem impl_unsealed (s : ByteArray) (hs : s.size ≤ 140737488351232) : Ev (fun k => impl_Unsealed.f k s) (unsealedM s) := by
  unfold impl_Unsealed.f unsealedM
  rw [w64 (x := (s.size : Int) - 4) (by omega) (by omega)]
  by_cases h1 : s.size < 4
  · rw [if_pos (.inl h1)]; exact ev_pos (by omega) (Ev.now _)
  · have e : ((s.size : Int) - 4 : Int).toNat = s.size - 4 := by omega
    rw [e]
    have hz : (s.extract 0 (s.size - 4)).size = s.size - 4 := by rw [ByteArray.size_extract]; omega
    have b := impl_sealed (s.extract 0 (s.size - 4)) (by omega)
    refine ev_neg (by omega) (ev_pos (by omega) (ev_pos (by omega) (ev_bind b ?_)))
    by_cases h2 : s.size > 20004
    · rw [if_pos (show s.size < 4 ∨ s.size > 20004 from .inr h2)]
      have e2 : sealedM (s.extract 0 (s.size - 4)) = ((⟨#[]⟩ : ByteArray), false) := by unfold sealedM; rw [if_pos (by omega)]
      rw [e2]
      exact ev_neg (by simp) (Ev.now _)
    · have e2 : sealedM (s.extract 0 (s.size - 4)) = (s.extract 0 (s.size - 4) ++ four (sumOf (s.extract 0 (s.size - 4))), true) := by unfold sealedM; rw [if_neg (by omega)]
      rw [if_neg (show ¬ (s.size < 4 ∨ s.size > 20004) by omega), e2]
      have hsp := extract_split s (s.size - 4) (by omega)
      refine ev_pos rfl (ev_if (fun c => ?_) (fun c => ?_))
      · have c2 : s.extract 0 (s.size - 4) ++ four (sumOf (s.extract 0 (s.size - 4))) = s.extract 0 (s.size - 4) ++ s.extract (s.size - 4) s.size := by rw [hsp]; exact toList_inj c
        rw [if_pos ((ByteArray.append_right_inj _).1 c2).symm]; exact Ev.now _
      · rw [if_neg (fun h => c (by show (s.extract 0 (s.size - 4) ++ four (sumOf (s.extract 0 (s.size - 4)))).toList = s.toList; rw [← h, hsp]))]; exact Ev.now _

theorem bt_nat (s : ByteArray) (i : Nat) (h : i < s.size) : bt s (i : Int) = ((s[i]'h).toNat : Int) := by
  unfold bt
  have e : ((i : Nat) : Int).toNat = i := Int.toNat_natCast i
  rw [dif_pos (by rw [e]; exact h)]
  simp only [e]

theorem bt_ext {x y : ByteArray} (h : x.size = y.size) (hj : ∀ j : Nat, j < x.size → bt x (j : Int) = bt y (j : Int)) : x = y := by
  apply ByteArray.ext
  apply Array.ext
  · exact h
  · intro i h1 h2
    have := hj i h1
    rw [bt_nat x i h1, bt_nat y i h2] at this
    exact UInt8.toNat_inj.1 (Int.ofNat_inj.1 this)
theorem bt_app (x y : ByteArray) (j : Nat) (hj : j < x.size + y.size) : bt (x ++ y) (j : Int) = if j < x.size then bt x (j : Int) else bt y ((j - x.size : Nat) : Int) := by
  rw [bt_nat (x ++ y) j (by rw [ByteArray.size_append]; exact hj)]
  split
  · rename_i c
    rw [bt_nat x j c, ByteArray.getElem_append_left c]
  · rename_i c
    rw [bt_nat y (j - x.size) (by omega), ByteArray.getElem_append_right (by omega)]
theorem bt_ext_at (t : ByteArray) (a b j : Nat) (hb : b ≤ t.size) (hj : a + j < b) : bt (t.extract a b) (j : Int) = bt t ((a + j : Nat) : Int) := by
  have h1 : (t.extract a b).size = b - a := by rw [ByteArray.size_extract]; omega
  rw [bt_nat _ j (by omega), bt_nat t (a + j) (by omega)]
  have e : (t.extract a b)[j]'(by omega) = t[a + j]'(by omega) := by
    show (t.extract a b).data[j]'_ = t.data[a + j]'_
    simp only [ByteArray.data_extract, Array.getElem_extract]
  rw [e]
theorem bt_nums (l : List Int) (hl : ∀ x ∈ l, 0 ≤ x ∧ x ≤ 255) (j : Nat) (hj : j < l.length) : bt (strOfNums l) (j : Int) = l[j] := by
  rw [bt_nat _ j (by rw [strOfNums_size]; exact hj)]
  have hm := hl _ (List.getElem_mem hj)
  have e : (strOfNums l)[j]'(by rw [strOfNums_size]; exact hj) = UInt8.ofNat (l[j]).toNat := by
    unfold strOfNums
    show ((l.map fun x => UInt8.ofNat x.toNat).toArray)[j]'(by simpa using hj) = _
    simp
  rw [e, UInt8.toNat_ofNat']
  omega

/-! a byte changed changes the sum -/
theorem xor32 (a b : Nat) (ha : a < 4294967296) (hb : b < 4294967296) : Go.bits .xor .u32 (a : Int) (b : Int) = ((a ^^^ b : Nat) : Int) := by
  have h1 : (BitVec.ofInt 32 (a : Int)).toNat = a := by rw [BitVec.toNat_ofInt]; omega
  have h2 : (BitVec.ofInt 32 (b : Int)).toNat = b := by rw [BitVec.toNat_ofInt]; omega
  show IntKind.u32.wrap ((BitVec.ofInt 32 (a : Int) ^^^ BitVec.ofInt 32 (b : Int)).toNat : Nat) = _
  rw [BitVec.toNat_xor, h1, h2]
  have : a ^^^ b < 2 ^ 32 := Nat.xor_lt_two_pow (by omega) (by omega)
  rw [IntKind.wrap_u32]
  omega
theorem xor8 (a b : Nat) (ha : a < 256) (hb : b < 256) : Go.bits .xor .u8 (a : Int) (b : Int) = ((a ^^^ b : Nat) : Int) := by
  have h1 : (BitVec.ofInt 8 (a : Int)).toNat = a := by rw [BitVec.toNat_ofInt]; omega
  have h2 : (BitVec.ofInt 8 (b : Int)).toNat = b := by rw [BitVec.toNat_ofInt]; omega
  show IntKind.u8.wrap ((BitVec.ofInt 8 (a : Int) ^^^ BitVec.ofInt 8 (b : Int)).toNat : Nat) = _
  rw [BitVec.toNat_xor, h1, h2]
  have : a ^^^ b < 2 ^ 8 := Nat.xor_lt_two_pow (by omega) (by omega)
  rw [IntKind.wrap_u8]
  omega
theorem xor_inj (a b c : Nat) (h : a ^^^ c = b ^^^ c) : a = b := by
  have h2 := congrArg (· ^^^ c) h
  simp only [Nat.xor_assoc, Nat.xor_self, Nat.xor_zero] at h2
  exact h2
theorem xor_ne (a c : Nat) (h : a ^^^ c = a) : c = 0 := by
  have h2 := congrArg (a ^^^ ·) h
  simp only [← Nat.xor_assoc, Nat.xor_self, Nat.zero_xor] at h2
  exact h2
def halfN (x : Nat) : Nat := if x % 2 = 1 then (x / 2) ^^^ 3558460437 else x / 2
theorem half_nat (x : Nat) (hx : x < 4294967296) : sumHalf (x : Int) = (halfN x : Int) := by
  have e1 : Int.tmod (x : Int) 2 = ((x % 2 : Nat) : Int) := by rw [Int.tmod_eq_emod_of_nonneg (by omega)]; omega
  have e2 : Int.tdiv (x : Int) 2 % 4294967296 = ((x / 2 : Nat) : Int) := by rw [Int.tdiv_eq_ediv_of_nonneg (by omega)]; omega
  unfold sumHalf halfN
  rw [e1, e2]
  by_cases c : x % 2 = 1
  · rw [if_pos (by omega), if_pos c]
    exact xor32 (x / 2) 3558460437 (by omega) (by decide)
  · rw [if_neg (by omega), if_neg c]
theorem half_big (a : Nat) (h : a < 2147483648) : 2147483648 ≤ a ^^^ 3558460437 := by
  have h1 : Nat.testBit a 31 = false := Nat.testBit_lt_two_pow (by omega)
  have h2 : Nat.testBit 3558460437 31 = true := by decide
  have h3 : Nat.testBit (a ^^^ 3558460437) 31 = true := by rw [Nat.testBit_xor, h1, h2]; rfl
  exact Nat.ge_two_pow_of_testBit h3
theorem halfN_lt (x : Nat) (hx : x < 4294967296) : halfN x < 4294967296 := by
  unfold halfN
  split
  · exact Nat.xor_lt_two_pow (n := 32) (by omega) (by decide)
  · omega
theorem halfN_inj (x y : Nat) (hx : x < 4294967296) (hy : y < 4294967296) (h : halfN x = halfN y) : x = y := by
  unfold halfN at h
  by_cases c : x % 2 = 1 <;> by_cases d : y % 2 = 1
  · rw [if_pos c, if_pos d] at h
    have := xor_inj _ _ _ h
    omega
  · rw [if_pos c, if_neg d] at h
    have := half_big (x / 2) (by omega)
    omega
  · rw [if_neg c, if_pos d] at h
    have := half_big (y / 2) (by omega)
    omega
  · rw [if_neg c, if_neg d] at h
    omega
def halvesN : Nat → Nat → Nat
  | 0, x => x
  | n + 1, x => halvesN n (halfN x)
theorem halves_nat : ∀ (n x : Nat), x < 4294967296 → halves n (x : Int) = (halvesN n x : Int) ∧ halvesN n x < 4294967296
  | 0, x, h => ⟨rfl, h⟩
  | n + 1, x, h => by
    have h2 := halfN_lt x h
    have h3 := halves_nat n (halfN x) h2
    rw [halves, half_nat x h]
    exact h3
theorem halvesN_inj : ∀ (n x y : Nat), x < 4294967296 → y < 4294967296 → halvesN n x = halvesN n y → x = y
  | 0, x, y, _, _, h => h
  | n + 1, x, y, hx, hy, h => halfN_inj x y hx hy (halvesN_inj n _ _ (halfN_lt x hx) (halfN_lt y hy) h)
theorem byte_nat (x b : Nat) (hx : x < 4294967296) (hb : b < 256) : ∃ y : Nat, sumByte (x : Int) (b : Int) = (y : Int) ∧ y = halvesN 8 (x ^^^ b) ∧ y < 4294967296 ∧ x ^^^ b < 4294967296 := by
  have h1 : x ^^^ b < 4294967296 := Nat.xor_lt_two_pow (n := 32) hx (by omega)
  have h2 := halves_nat 8 (x ^^^ b) h1
  refine ⟨halvesN 8 (x ^^^ b), ?_, rfl, h2.2, h1⟩
  unfold sumByte
  have e : (b : Int) % 4294967296 = (b : Int) := by omega
  rw [e, xor32 x b hx (by omega)]
  exact h2.1
theorem btN (s : ByteArray) (i : Int) : ∃ b : Nat, bt s i = (b : Int) ∧ b < 256 := by
  have h := bt_range s i
  exact ⟨(bt s i).toNat, by omega, by omega⟩
theorem from_nat (s : ByteArray) : ∀ (d i x : Nat), x < 4294967296 → ∃ y : Nat, sumFrom s d i (x : Int) = (y : Int) ∧ y < 4294967296
  | 0, i, x, h => ⟨x, rfl, h⟩
  | d + 1, i, x, h => by
    obtain ⟨b, e, hb⟩ := btN s (i : Int)
    obtain ⟨y, e2, _, hy, _⟩ := byte_nat x b h hb
    rw [sumFrom, e, e2]
    exact from_nat s d (i + 1) y hy
theorem from_inj (s : ByteArray) : ∀ (d i x y : Nat), x < 4294967296 → y < 4294967296 → sumFrom s d i (x : Int) = sumFrom s d i (y : Int) → x = y
  | 0, i, x, y, _, _, h => by
    have h' : (x : Int) = (y : Int) := h
    omega
  | d + 1, i, x, y, hx, hy, h => by
    obtain ⟨b, e, hb⟩ := btN s (i : Int)
    obtain ⟨x1, e1, f1, h1, g1⟩ := byte_nat x b hx hb
    obtain ⟨y1, e2, f2, h2, g2⟩ := byte_nat y b hy hb
    rw [sumFrom, sumFrom, e, e1, e2] at h
    have h3 := from_inj s d (i + 1) x1 y1 h1 h2 h
    rw [f1, f2] at h3
    exact xor_inj _ _ _ (halvesN_inj 8 _ _ g1 g2 h3)
theorem from_split (s : ByteArray) : ∀ (d r i : Nat) (x : Int), sumFrom s (d + r) i x = sumFrom s r (i + d) (sumFrom s d i x)
  | 0, r, i, x => by rw [Nat.zero_add]; rfl
  | d + 1, r, i, x => by
    rw [show d + 1 + r = (d + r) + 1 by omega, sumFrom, from_split s d r (i + 1), sumFrom, show i + 1 + d = i + (d + 1) by omega]
theorem from_same (s u : ByteArray) : ∀ (d i : Nat) (x : Int), (∀ k : Nat, i ≤ k → k < i + d → bt s (k : Int) = bt u (k : Int)) → sumFrom s d i x = sumFrom u d i x
  | 0, i, x, _ => rfl
  | d + 1, i, x, h => by
    rw [sumFrom, sumFrom, h i (Nat.le_refl _) (by omega)]
    exact from_same s u d (i + 1) _ (fun k h1 h2 => h k (by omega) (by omega))
theorem sum_ne (s u : ByteArray) (n j : Nat) (hj : j < n) (hs : s.size = n) (hu : u.size = n) (hd : bt s (j : Int) ≠ bt u (j : Int)) (h : ∀ k : Nat, k < n → k ≠ j → bt s (k : Int) = bt u (k : Int)) : sumOf s ≠ sumOf u := by
  unfold sumOf
  rw [hs, hu]
  intro e
  obtain ⟨r, rfl⟩ : ∃ r, n = j + (r + 1) := ⟨n - j - 1, by omega⟩
  rw [from_split s j (r + 1), from_split u j (r + 1), from_same s u j 0 _ (fun k _ h2 => h k (by omega) (by omega)), Nat.zero_add, sumFrom, sumFrom] at e
  rw [from_same s u r (j + 1) _ (fun k h1 h2 => h k (by omega) (by omega))] at e
  obtain ⟨z, e3, hz⟩ := from_nat u j 0 4294967295 (by decide)
  have e3' : sumFrom u j 0 4294967295 = (z : Int) := e3
  rw [e3'] at e
  obtain ⟨b, e4, hb⟩ := btN s (j : Int)
  obtain ⟨c, e5, hc⟩ := btN u (j : Int)
  rw [e4, e5] at e hd
  obtain ⟨x1, e6, f1, h1, g1⟩ := byte_nat z b hz hb
  obtain ⟨y1, e7, f2, h2, g2⟩ := byte_nat z c hz hc
  rw [e6, e7] at e
  have h3 := from_inj u r (j + 1) x1 y1 h1 h2 e
  rw [f1, f2] at h3
  have h4 := halvesN_inj 8 _ _ g1 g2 h3
  rw [Nat.xor_comm z b, Nat.xor_comm z c] at h4
  have h5 := xor_inj _ _ _ h4
  exact hd (by rw [h5])
theorem sum_nat (s : ByteArray) : ∃ y : Nat, sumOf s = (y : Int) ∧ y < 4294967296 := from_nat s s.size 0 4294967295 (by decide)
theorem four_bytes (x : Int) (j : Nat) (hj : j < 4) : bt (four x) (j : Int) = ([(x / 16777216) % 256, (x / 65536) % 256, (x / 256) % 256, (x) % 256] : List Int)[j]'hj := by
  unfold four
  exact bt_nums ([(x / 16777216) % 256, (x / 65536) % 256, (x / 256) % 256, (x) % 256] : List Int) (fun y hy => by
    simp only [List.mem_cons, List.mem_nil_iff, or_false] at hy
    omega) j hj
theorem four_inj (x y : Nat) (hx : x < 4294967296) (hy : y < 4294967296) (h : four (x : Int) = four (y : Int)) : x = y := by
  have h0 := four_bytes (x : Int) 0 (by decide)
  have h1 := four_bytes (x : Int) 1 (by decide)
  have h2 := four_bytes (x : Int) 2 (by decide)
  have h3 := four_bytes (x : Int) 3 (by decide)
  have k0 := four_bytes (y : Int) 0 (by decide)
  have k1 := four_bytes (y : Int) 1 (by decide)
  have k2 := four_bytes (y : Int) 2 (by decide)
  have k3 := four_bytes (y : Int) 3 (by decide)
  rw [h] at h0 h1 h2 h3
  rw [h0] at k0
  rw [h1] at k1
  rw [h2] at k2
  rw [h3] at k3
  replace k0 : ((x : Int) / 16777216) % 256 = ((y : Int) / 16777216) % 256 := k0
  replace k1 : ((x : Int) / 65536) % 256 = ((y : Int) / 65536) % 256 := k1
  replace k2 : ((x : Int) / 256) % 256 = ((y : Int) / 256) % 256 := k2
  replace k3 : (x : Int) % 256 = (y : Int) % 256 := k3
  omega

theorem draw_places0 (b : List Int) (hb : b.length ≤ 1048576) : ∀ (m j : Nat) (l : List Int) (i h : Int), j + m = 12 → l.length = j → (∀ x ∈ l, 0 ≤ x ∧ x < 10000) → CurOk b i → ∃ P, Ev (fun k => spec_DrawPlaces.l0 k l (j : Int) b i h) P ∧ P.length = 12 ∧ ∀ x ∈ P, 0 ≤ x ∧ x < 10000
  | 0, j, l, i, h, e, hl, hx, g => by
    refine ⟨l, ev_step ?_, by omega, hx⟩
    simp only [spec_DrawPlaces.l0]
    exact ev_neg (by omega) (Ev.now _)
  | m + 1, j, l, i, h, e, hl, hx, g => by
    obtain ⟨r, i1, h1, e1, q1, q2, _, g1⟩ := draw_below b i h 10000 hb g
    obtain ⟨P, e2, hP⟩ := draw_places0 b hb m (j + 1) (l ++ [r]) i1 h1 (by omega) (by simp [hl]) (fun x hx2 => by
      rcases List.mem_append.1 hx2 with h3 | h3
      · exact hx x h3
      · rw [List.mem_singleton] at h3; subst h3; exact ⟨q1, q2 (by decide)⟩) g1
    refine ⟨P, ev_step ?_, hP⟩
    simp only [spec_DrawPlaces.l0]
    rw [next64 _ (by omega)]
    exact ev_pos (by omega) (ev_cbind e1 (ev_pos (by omega) e2))
theorem draw_places (b : List Int) (hb : b.length ≤ 1048576) : ∃ P, Ev (fun k => spec_DrawPlaces.f k b) P ∧ P.length = 12 ∧ ∀ x ∈ P, 0 ≤ x ∧ x < 10000 := by
  unfold spec_DrawPlaces.f
  obtain ⟨h, e⟩ := draw_new b hb
  obtain ⟨r, i1, h1, e1, _, g1⟩ := draw_byte b 0 h hb (cur0 b)
  obtain ⟨P, e2, hP⟩ := draw_places0 b hb 12 0 [] i1 h1 rfl rfl (fun x hx => by cases hx) g1
  exact ⟨P, ev_bind e (ev_cbind e1 e2), hP⟩
theorem rd_mem (P : List Int) (i : Int) (h0 : 0 ≤ i) (h1 : i < (P.length : Int)) : rd P i ∈ P := by
  unfold rd
  have h2 : i.toNat < P.length := by omega
  rw [List.getD_eq_getElem?_getD, List.getElem?_eq_getElem h2, Option.getD_some]
  exact List.getElem_mem h2

theorem sealed_small (s : ByteArray) (h : s.size ≤ 20000) : sealedM s = (s ++ four (sumOf s), true) := by unfold sealedM; rw [if_neg (by omega)]
theorem sealed_size (s : ByteArray) : (s ++ four (sumOf s)).size = s.size + 4 := by rw [ByteArray.size_append, four_size]
theorem ext_head (s u : ByteArray) : (s ++ u).extract 0 s.size = s := by
  apply bt_ext
  · rw [ByteArray.size_extract, ByteArray.size_append]; omega
  · intro j hj
    have hz : ((s ++ u).extract 0 s.size).size = s.size := by rw [ByteArray.size_extract, ByteArray.size_append]; omega
    rw [bt_ext_at _ 0 s.size j (by rw [ByteArray.size_append]; omega) (by omega), Nat.zero_add, bt_app s u j (by omega), if_pos (by omega)]
theorem ext_tail (s u : ByteArray) : (s ++ u).extract s.size (s ++ u).size = u := by
  apply bt_ext
  · rw [ByteArray.size_extract, ByteArray.size_append]; omega
  · intro j hj
    have hz : ((s ++ u).extract s.size (s ++ u).size).size = u.size := by rw [ByteArray.size_extract, ByteArray.size_append]; omega
    have hz2 : (s ++ u).size = s.size + u.size := ByteArray.size_append ..
    rw [bt_ext_at _ s.size _ j (Nat.le_refl _) (by omega), bt_app s u (s.size + j) (by omega), if_neg (by omega), show s.size + j - s.size = j by omega]
theorem unsealed_back (s : ByteArray) (h : s.size ≤ 20000) : unsealedM (s ++ four (sumOf s)) = (s, true) := by
  have hz := sealed_size s
  have e1 : (s ++ four (sumOf s)).size - 4 = s.size := by omega
  unfold unsealedM
  rw [if_neg (by omega), e1, ext_head, ext_tail, if_pos rfl]
theorem unsealed_other (s u : ByteArray) (h : s.size ≤ 20000) (j : Nat) (hu : u.size = s.size + 4) (hj : j < u.size) (hd : bt u (j : Int) ≠ bt (s ++ four (sumOf s)) (j : Int)) (hk : ∀ k : Nat, k < u.size → k ≠ j → bt u (k : Int) = bt (s ++ four (sumOf s)) (k : Int)) : (unsealedM u).2 = false := by
  have hz := sealed_size s
  have e1 : u.size - 4 = s.size := by omega
  have hx : (u.extract 0 s.size).size = s.size := by rw [ByteArray.size_extract]; omega
  have hb : ∀ k : Nat, k < s.size → bt (u.extract 0 s.size) (k : Int) = bt u (k : Int) := fun k hk => by rw [bt_ext_at u 0 s.size k (by omega) (by omega), Nat.zero_add]
  have ht : ∀ k : Nat, k < 4 → bt (u.extract s.size u.size) (k : Int) = bt u ((s.size + k : Nat) : Int) := fun k hk => bt_ext_at u s.size u.size k (Nat.le_refl _) (by omega)
  unfold unsealedM
  rw [if_neg (by omega), e1]
  rw [if_neg]
  intro e
  by_cases c : j < s.size
  · have hne : sumOf s ≠ sumOf (u.extract 0 s.size) := by
      refine sum_ne s (u.extract 0 s.size) s.size j c rfl hx ?_ (fun k h1 h2 => ?_)
      · rw [hb j c]
        intro e2
        apply hd
        rw [← e2, bt_app s _ j (by omega), if_pos c]
      · rw [hb k h1, hk k (by omega) h2, bt_app s _ k (by omega), if_pos h1]
    have hf : u.extract s.size u.size = four (sumOf s) := by
      apply bt_ext
      · rw [ByteArray.size_extract, four_size]; omega
      · intro k h1
        have hz3 : (u.extract s.size u.size).size = 4 := by rw [ByteArray.size_extract]; omega
        rw [ht k (by omega), hk (s.size + k) (by omega) (by omega), bt_app s _ (s.size + k) (by rw [four_size]; omega), if_neg (by omega), show s.size + k - s.size = k by omega]
    rw [hf] at e
    obtain ⟨x, ex, hx2⟩ := sum_nat s
    obtain ⟨y, ey, hy2⟩ := sum_nat (u.extract 0 s.size)
    rw [ex, ey] at e hne
    exact hne (by rw [four_inj x y hx2 hy2 e])
  · have hs : u.extract 0 s.size = s := by
      apply bt_ext
      · exact hx
      · intro k h1
        rw [hb k (by omega), hk k (by omega) (by omega), bt_app s _ k (by omega), if_pos (by omega)]
    rw [hs] at e
    apply hd
    have h2 := ht (j - s.size) (by omega)
    rw [e, show s.size + (j - s.size) = j by omega] at h2
    rw [bt_app s _ j (by rw [four_size]; omega), if_neg c]
    exact h2.symm
theorem sum_append (s t : ByteArray) : sumFrom t t.size 0 (sumOf s) = sumOf (s ++ t) := by
  unfold sumOf
  rw [ByteArray.size_append, from_split (s ++ t) s.size t.size 0, Nat.zero_add]
  rw [from_same (s ++ t) s s.size 0 _ (fun k _ h2 => by rw [bt_app s t k (by omega), if_pos (by omega)])]
  generalize sumFrom s s.size 0 4294967295 = x
  have key : ∀ (d i : Nat) (x : Int), i + d = t.size → sumFrom t d i x = sumFrom (s ++ t) d (s.size + i) x := by
    intro d
    induction d with
    | zero => intro i x _; rfl
    | succ d ih =>
      intro i x hi
      rw [sumFrom, sumFrom, bt_app s t (s.size + i) (by omega), if_neg (by omega), show s.size + i - s.size = i by omega, ih (i + 1) _ (by omega)]
      rfl
  exact key t.size 0 x (by omega)
theorem turned (b : List Int) (hb : b.length ≤ 1048576) : Ev (fun k => laws_FnTurned.f k b) true := by
  obtain ⟨h0, e0⟩ := draw_new b hb
  obtain ⟨r, i1, h1, e1, q1, q2, _, g1⟩ := draw_below b 0 h0 40 hb (cur0 b)
  have q3 := q2 (by decide)
  obtain ⟨s, i2, h2, e2, ⟨s1, s2⟩, g2⟩ := draw_text b i1 h1 r hb g1
  have d1 : Ev (fun k => spec_DrawSumOf.f k b) s := by
    unfold spec_DrawSumOf.f
    exact ev_bind e0 (ev_cbind e1 (ev_bind e2 (Ev.now _)))
  obtain ⟨P, d2, hP, hx⟩ := draw_places b hb
  have x0 := hx _ (rd_mem P 0 (by omega) (by omega))
  have x1 := hx _ (rd_mem P 1 (by omega) (by omega))
  have hz := sealed_size s
  have y1 := impl_sealed s (by omega)
  rw [sealed_small s (by omega)] at y1
  have y2 := impl_unsealed (s ++ four (sumOf s)) (by omega)
  rw [unsealed_back s (by omega)] at y2
  generalize hT : s ++ four (sumOf s) = T at y1 y2 hz
  have hlen : (([] : List Int) ++ bytesOf T).length = T.size := by rw [List.nil_append, bytesOf_length]
  have a0 : 0 ≤ Int.tmod (rd P 0) (T.size : Int) := Int.tmod_nonneg _ x0.1
  have a1 : Int.tmod (rd P 0) (T.size : Int) < (T.size : Int) := Int.tmod_lt_of_pos _ (by omega)
  have n0 : 0 ≤ Int.tmod (rd P 1) 255 := Int.tmod_nonneg _ x1.1
  have n1 : Int.tmod (rd P 1) 255 < 255 := Int.tmod_lt_of_pos _ (by decide)
  unfold laws_FnTurned.f
  refine ev_cbind (a := false) (by unfold laws_big.f; rw [decide_eq_false (by omega)]) (ev_neg (by decide) (ev_bind d1 (ev_bind d2 (ev_bind y1 (ev_bind y2 (ev_pos rfl (ev_pos rfl (ev_pos rfl (ev_step ?_)))))))))
  have ez : ((T.size : Int) != wrap64 ((s.size : Int) + 4)) = false := by rw [w64 (by omega) (by omega), hz]; exact bne_eq_false_iff_eq.2 (by omega)
  simp only [laws_FnTurned.j0]
  rw [ez]
  refine ev_neg (by decide) (ev_pos (by omega) (ev_cbind rfl ?_))
  rw [hlen]
  refine ev_pos (by omega) (ev_neg (by omega) (ev_pos a0 (ev_pos a1 (ev_pos (by omega) ?_))))
  obtain ⟨j, ej⟩ : ∃ j : Nat, Int.tmod (rd P 0) (T.size : Int) = (j : Int) := ⟨(Int.tmod (rd P 0) (T.size : Int)).toNat, by omega⟩
  obtain ⟨v, ev⟩ : ∃ v : Nat, wrap64 (1 + Int.tmod (rd P 1) 255) % 256 = (v : Int) := ⟨(wrap64 (1 + Int.tmod (rd P 1) 255) % 256).toNat, by rw [w64 (by omega) (by omega)]; omega⟩
  have hv : 1 ≤ v ∧ v < 256 := by rw [w64 (by omega) (by omega)] at ev; omega
  rw [ej] at a1 ⊢
  rw [ev]
  have hrd : rd (([] : List Int) ++ bytesOf T) (j : Int) = bt T (j : Int) := by rw [List.nil_append]; exact rd_bytesOf T (j : Int)
  obtain ⟨c, ec, hc⟩ := btN T (j : Int)
  rw [hrd, ec, xor8 c v hc hv.2, Int.toNat_natCast, List.nil_append]
  have hcv : c ^^^ v < 256 := Nat.xor_lt_two_pow (n := 8) hc hv.2
  have hU : (strOfNums ((bytesOf T).set j ((c ^^^ v : Nat) : Int))).size = T.size := by rw [strOfNums_size, List.length_set, bytesOf_length]
  have hbytes : ∀ x ∈ (bytesOf T).set j ((c ^^^ v : Nat) : Int), 0 ≤ x ∧ x ≤ 255 := by
    intro x hx2
    rcases List.mem_or_eq_of_mem_set hx2 with h | rfl
    · unfold bytesOf at h
      obtain ⟨u, _, rfl⟩ := List.mem_map.1 h
      have := u.toNat_lt
      omega
    · omega
  have hbt : ∀ k : Nat, k < T.size → bt (strOfNums ((bytesOf T).set j ((c ^^^ v : Nat) : Int))) (k : Int) = if k = j then ((c ^^^ v : Nat) : Int) else bt T (k : Int) := by
    intro k hk
    rw [bt_nums _ hbytes k (by rw [List.length_set, bytesOf_length]; exact hk), List.getElem_set]
    by_cases cc : j = k
    · rw [if_pos cc, if_pos cc.symm]
    · rw [if_neg cc, if_neg (fun h => cc h.symm)]
      have h := rd_bytesOf T (k : Int)
      rw [← h]
      unfold rd
      rw [Int.toNat_natCast, List.getD_eq_getElem?_getD, List.getElem?_eq_getElem (by rw [bytesOf_length]; exact hk), Option.getD_some]
  have y3 := impl_unsealed (strOfNums ((bytesOf T).set j ((c ^^^ v : Nat) : Int))) (by omega)
  have hno : (unsealedM (strOfNums ((bytesOf T).set j ((c ^^^ v : Nat) : Int)))).2 = false := by
    refine unsealed_other s _ (by omega) j (by omega) (by omega) ?_ (fun k hk1 hk2 => ?_)
    · rw [hT, hbt j (by omega), if_pos rfl, ec]
      intro h
      have := xor_ne c v (by omega)
      omega
    · rw [hT, hbt k (by omega), if_neg hk2]
  have y4 := impl_sumOf s (by omega)
  have y5 := impl_sum (⟨#[120]⟩ : ByteArray) (by decide) (sumOf s)
  rw [sum_append] at y5
  have hs1 : (s ++ (⟨#[120]⟩ : ByteArray)).size = s.size + 1 := ByteArray.size_append ..
  have y6 := impl_sumOf (s ++ (⟨#[120]⟩ : ByteArray)) (by omega)
  refine ev_bind y3 (ev_neg (by rw [hno]; decide) (ev_bind y4 (ev_bind y5 (ev_pos (by omega) (ev_bind y6 (ev_now ?_))))))
  exact beq_self_eq_true _
theorem holds : laws_FnTurned.Pure := by
  intro l0 _ h _
  by_cases c : l0.length ≤ 1048576
  · exact ev_at (turned l0 c)
  · refine ⟨0, ?_⟩
    unfold laws_FnTurned.f laws_big.f
    rw [Option.bind_some, decide_eq_true (by omega)]
    rfl
end Go.Proofs.Ytjadloppdbhpiaa.QFnTurned
namespace Go.Proofs.Ytjadloppdbhpiaa.Pure
theorem FnTurned : QFnTurned.laws_FnTurned.Pure := QFnTurned.holds
end Go.Proofs.Ytjadloppdbhpiaa.Pure
