/- The law FnExactReadVar answers true at every text and place. Conditions: the text's size as the row gives it. -/
import Derived.Test.YtohdlnngfblmbaaPFnExactReadVarx2
import Derived.Test.YtohdlnngfblmbaaAid
namespace Go.Proofs.Ytohdlnngfblmbaa.Pure
open Go.RowKit Go.Proofs.Ytohdlnngfblmbaa.PFnExactReadVar Go.Proofs.YtohdlnngfblmbaaW.PrintWords Go.Proofs.YtohdlnngfblmbaaW.PrintLast Go.Proofs.YtohdlnngfblmbaaW.PrintMore Go.Proofs.Ytohdlnngfblmbaa.Aid

/-- A number's bytes, seven bits each. -/
def varL (n : Nat) : List Int := if n > 127 then ((n % 128 + 128 : Nat) : Int) :: varL (n / 128) else [(n : Int)]
termination_by n
decreasing_by omega

def varText (n : Int) : ByteArray × Bool := if 0 ≤ n ∧ n ≤ 1000000000 then (strOfNums (varL n.toNat), true) else ((⟨#[]⟩ : ByteArray), false)
theorem spec_var0 : ∀ (n : Nat) (acc : List Int), acc.length + n < 140737488355000 → Ev (fun k => spec_l01Var.l0 k (n : Int) acc) (strOfNums (acc ++ varL n)) := by
  intro n
  induction n using Nat.strongRecOn with
  | _ n ih =>
    intro acc hb
    refine ev_step ?_
    simp only [spec_l01Var.l0]
    by_cases h : n > 127
    · refine ev_pos (by omega) (ev_pos (by omega) ?_)
      have e1 : wrap64 (Int.tdiv (n : Int) 128) = ((n / 128 : Nat) : Int) := by
        rw [show Int.tdiv (n : Int) 128 = ((n / 128 : Nat) : Int) from rfl, w64 (by omega) (by omega)]
      have e2 : (wrap64 ((Int.tmod (n : Int) 128) + 128)) % 256 = ((n % 128 + 128 : Nat) : Int) := by
        rw [show Int.tmod (n : Int) 128 = ((n % 128 : Nat) : Int) from rfl, w64 (by omega) (by omega)]; omega
      rw [e1, e2]
      have e3 : varL n = ((n % 128 + 128 : Nat) : Int) :: varL (n / 128) := by rw [varL, if_pos h]
      rw [e3]
      have := ih (n / 128) (by omega) (acc ++ [((n % 128 + 128 : Nat) : Int)]) (by simp; omega)
      rw [List.append_assoc] at this
      exact this
    · have e3 : varL n = [(n : Int)] := by rw [varL, if_neg h]
      have e4 : (n : Int) % 256 = (n : Int) := by omega
      rw [e3, e4]
      exact ev_neg (by omega) (ev_pos (by omega) (Ev.now _))

theorem impl_var0 : ∀ (n : Nat) (acc : List Int), acc.length + n < 140737488355000 → Ev (fun k => impl_VarText.l0 k (n : Int) acc) ((strOfNums (acc ++ varL n), true)) := by
  intro n
  induction n using Nat.strongRecOn with
  | _ n ih =>
    intro acc hb
    refine ev_step ?_
    simp only [impl_VarText.l0]
    by_cases h : n > 127
    · refine ev_pos (by omega) (ev_pos (by omega) ?_)
      have e1 : wrap64 (Int.tdiv (n : Int) 128) = ((n / 128 : Nat) : Int) := by
        rw [show Int.tdiv (n : Int) 128 = ((n / 128 : Nat) : Int) from rfl, w64 (by omega) (by omega)]
      have e2 : (wrap64 ((Int.tmod (n : Int) 128) + 128)) % 256 = ((n % 128 + 128 : Nat) : Int) := by
        rw [show Int.tmod (n : Int) 128 = ((n % 128 : Nat) : Int) from rfl, w64 (by omega) (by omega)]; omega
      rw [e1, e2]
      have e3 : varL n = ((n % 128 + 128 : Nat) : Int) :: varL (n / 128) := by rw [varL, if_pos h]
      rw [e3]
      have := ih (n / 128) (by omega) (acc ++ [((n % 128 + 128 : Nat) : Int)]) (by simp; omega)
      rw [List.append_assoc] at this
      exact this
    · have e3 : varL n = [(n : Int)] := by rw [varL, if_neg h]
      have e4 : (n : Int) % 256 = (n : Int) := by omega
      rw [e3, e4]
      exact ev_neg (by omega) (ev_pos (by omega) (Ev.now _))

theorem spec_var (n : Nat) (h : n ≤ 1000000000) : Ev (fun k => spec_l01Var.f k n) (strOfNums (varL n)) := spec_var0 n [] (by simp; omega)
theorem within_true {a b c : Int} (h : b ≤ a) (h2 : a ≤ c) : impl_within.f a b c = some true := by unfold impl_within.f; rw [if_pos h]; simp [h2]
theorem within_false {a b c : Int} (h : ¬ (b ≤ a ∧ a ≤ c)) : impl_within.f a b c = some false := by
  unfold impl_within.f
  by_cases h1 : a ≥ b
  · rw [if_pos h1]; simp; omega
  · rw [if_neg h1]
theorem impl_varText (n : Int) : Ev (fun k => impl_VarText.f k n) (varText n) := by
  unfold impl_VarText.f varText
  by_cases h : 0 ≤ n ∧ n ≤ 1000000000
  · rw [if_pos h]
    refine ev_cbind (within_true h.1 h.2) (ev_pos rfl ?_)
    have := impl_var0 n.toNat [] (by simp; omega)
    rw [Int.toNat_of_nonneg h.1] at this
    exact this
  · rw [if_neg h]
    exact ev_cbind (within_false h) (ev_neg (by simp) (Ev.now _))

theorem in_true {a b c : Int} (h : b ≤ a) (h2 : a ≤ c) : spec_l01In.f a b c = some true := by unfold spec_l01In.f; rw [if_pos h]; simp [h2]
theorem in_false {a b c : Int} (h : ¬ (b ≤ a ∧ a ≤ c)) : spec_l01In.f a b c = some false := by
  unfold spec_l01In.f
  by_cases h1 : a ≥ b
  · rw [if_pos h1]; simp; omega
  · rw [if_neg h1]
theorem toList_inj {a b : ByteArray} (h : a.toList = b.toList) : a = b := by
  rw [ByteArray.toList_eq, ByteArray.toList_eq] at h
  exact ByteArray.ext (Array.toList_inj.1 h)

/-! a number is read -/
theorem varL_range (n : Nat) : ∀ x ∈ varL n, 0 ≤ x ∧ x ≤ 255 := by
  induction n using Nat.strongRecOn with
  | _ n ih =>
    intro x hx
    rw [varL] at hx
    split at hx
    · rcases List.mem_cons.1 hx with rfl | hx
      · omega
      · exact ih (n / 128) (by omega) x hx
    · rw [List.mem_singleton] at hx
      subst hx; omega
/-- The value of bytes, seven bits each. -/
def valL : List Int → Nat
  | [] => 0
  | b :: l => b.toNat % 128 + 128 * valL l
/-- Bytes that go on, and a last one that doesn't. -/
def Chain : List Int → Prop
  | [] => False
  | [b] => 0 ≤ b ∧ b < 128
  | b :: c :: l => 128 ≤ b ∧ b ≤ 255 ∧ Chain (c :: l)
theorem varL_val : ∀ (l : List Int), Chain l → varL (valL l) = l ∨ (varL (valL l)).length < l.length
  | [], h => h.elim
  | [b], h => by
    left
    have h : 0 ≤ b ∧ b < 128 := h
    have e : valL [b] = b.toNat := by simp only [valL]; omega
    rw [e, varL, if_neg (by omega)]
    congr 1
    omega
  | b :: c :: l, h => by
    obtain ⟨h1, h2, h3⟩ := h
    have ih := varL_val (c :: l) h3
    have ev : valL (b :: c :: l) = b.toNat % 128 + 128 * valL (c :: l) := rfl
    rw [ev]
    generalize valL (c :: l) = v at ih
    by_cases hv : v = 0
    · right
      subst hv
      rw [varL, if_neg (by omega)]
      simp
    · have e1 : (b.toNat % 128 + 128 * v) / 128 = v := by omega
      have e2 : (((b.toNat % 128 + 128 * v) % 128 + 128 : Nat) : Int) = b := by omega
      rw [varL, if_pos (by omega), e1, e2]
      rcases ih with ih | ih
      · left; rw [ih]
      · right; simp at ih ⊢; omega
def bytesAt (s : ByteArray) (a m : Nat) : List Int := (List.range m).map fun (j : Nat) => bt s ((a + j : Nat) : Int)
theorem bt_nat (s : ByteArray) (i : Nat) (h : i < s.size) : bt s (i : Int) = ((s[i]'h).toNat : Int) := by
  unfold bt
  have e : ((i : Nat) : Int).toNat = i := Int.toNat_natCast i
  rw [dif_pos (by rw [e]; exact h)]
  simp only [e]
theorem extract_bytesAt (s : ByteArray) (a m : Nat) (h : a + m ≤ s.size) : s.extract a (a + m) = strOfNums (bytesAt s a m) := by
  apply ByteArray.ext
  apply Array.ext
  · rw [ByteArray.data_extract, Array.size_extract]
    show _ = (strOfNums (bytesAt s a m)).data.size
    have : (strOfNums (bytesAt s a m)).data.size = m := by show (strOfNums (bytesAt s a m)).size = m; rw [strOfNums_size]; simp [bytesAt]
    have h2 : s.data.size = s.size := rfl
    omega
  · intro i h1 h2
    have hz : (strOfNums (bytesAt s a m)).data.size = m := by show (strOfNums (bytesAt s a m)).size = m; rw [strOfNums_size]; simp [bytesAt]
    have hi : i < m := by rw [hz] at h2; exact h2
    have e : (strOfNums (bytesAt s a m)).data[i]'h2 = UInt8.ofNat (bt s ((a + i : Nat) : Int)).toNat := by
      unfold strOfNums bytesAt
      simp
    rw [e, bt_nat s (a + i) (by omega), Int.toNat_natCast, UInt8.ofNat_toNat]
    simp only [ByteArray.data_extract, Array.getElem_extract]
    rfl
theorem strOfNums_inj {a b : List Int} (ha : ∀ x ∈ a, 0 ≤ x ∧ x ≤ 255) (hb : ∀ x ∈ b, 0 ≤ x ∧ x ≤ 255) (h : strOfNums a = strOfNums b) : a = b := by
  have h2 : (strOfNums a).data.toList = (strOfNums b).data.toList := by rw [h]
  rw [strOfNums_data, strOfNums_data] at h2
  clear h
  induction a generalizing b with
  | nil =>
    cases b with
    | nil => rfl
    | cons y b => simp at h2
  | cons x a ih =>
    cases b with
    | nil => simp at h2
    | cons y b =>
      simp only [List.map_cons, List.cons.injEq] at h2
      have hx := ha x (by simp)
      have hy := hb y (by simp)
      have e : x.toNat = y.toNat := by
        have := congrArg UInt8.toNat h2.1
        rw [UInt8.toNat_ofNat', UInt8.toNat_ofNat'] at this
        omega
      rw [ih (fun z hz => ha z (by simp [hz])) (fun z hz => hb z (by simp [hz])) h2.2, show x = y by omega]
theorem bytesAt_range (s : ByteArray) (a m : Nat) : ∀ x ∈ bytesAt s a m, 0 ≤ x ∧ x ≤ 255 := by
  intro x hx
  obtain ⟨j, _, rfl⟩ := List.mem_map.1 hx
  exact bt_range _ _
/-- The walk over at most five bytes: d rounds are left, i bytes are behind, which are n. -/
def rv (s : ByteArray) (a : Nat) : Nat → Nat → Nat → Int × Int × Bool
  | 0, _, _ => (0, 0, false)
  | d + 1, i, n =>
    if a + i < s.size then
      if bt s ((a + i : Nat) : Int) < 128 then
        if n + (bt s ((a + i : Nat) : Int)).toNat % 128 * 128 ^ i ≤ 1000000000 ∧ (varL (n + (bt s ((a + i : Nat) : Int)).toNat % 128 * 128 ^ i)).length = i + 1 then (((n + (bt s ((a + i : Nat) : Int)).toNat % 128 * 128 ^ i : Nat) : Int), ((a + i + 1 : Nat) : Int), true) else (0, 0, false)
      else rv s a d (i + 1) (n + (bt s ((a + i : Nat) : Int)).toNat % 128 * 128 ^ i)
    else (0, 0, false)
def readVarM (s : ByteArray) (a : Int) : Int × Int × Bool := if 0 ≤ a ∧ a ≤ (s.size : Int) then rv s a.toNat 5 0 0 else (0, 0, false)
theorem pow5 (i : Nat) (h : i < 5) : 128 ^ i ≤ 268435456 := by
  have : i = 0 ∨ i = 1 ∨ i = 2 ∨ i = 3 ∨ i = 4 := by omega
  rcases this with rfl | rfl | rfl | rfl | rfl <;> first | decide | (unfold wrap64; decide)
theorem pow_next (i : Nat) (h : i < 5) : wrap64 (((128 ^ i : Nat) : Int) * 128) = ((128 ^ (i + 1) : Nat) : Int) := by
  have : i = 0 ∨ i = 1 ∨ i = 2 ∨ i = 3 ∨ i = 4 := by omega
  rcases this with rfl | rfl | rfl | rfl | rfl <;> first | decide | (unfold wrap64; decide)
theorem mul_small (x p : Nat) (hx : x < 128) (hp : p ≤ 268435456) : x * p ≤ 127 * 268435456 := Nat.mul_le_mul (by omega) hp
theorem shl_pow (x i : Nat) (hx : x < 128) (hi : i < 5) : shl .i64 (x : Int) ((7 * i : Nat) : Int) = ((x * 128 ^ i : Nat) : Int) := by
  have : i = 0 ∨ i = 1 ∨ i = 2 ∨ i = 3 ∨ i = 4 := by omega
  unfold shl IntKind.wrap
  rcases this with rfl | rfl | rfl | rfl | rfl <;> simp [IntKind.bits, IntKind.signed] <;> omega
theorem spec_var' (m : Nat) (hm : m ≤ 1000000000) : Ev (fun k => spec_l01Var.f k (m : Int)) (strOfNums (varL m)) := spec_var m hm
theorem impl_rv (s : ByteArray) (hs : s.size ≤ 140737488351232) (a : Nat) (ha : a ≤ s.size) : ∀ (d i n : Nat), d + i = 5 → n < 128 ^ i → Ev (fun k => impl_ReadVar.l0 k s (a : Int) (n : Int) (i : Int)) (rv s a d i n) := by
  intro d
  induction d with
  | zero =>
    intro i n hi hn
    refine ev_step ?_
    simp only [impl_ReadVar.l0]
    refine ev_neg (by omega) (ev_step ?_)
    simp only [impl_ReadVar.j1]
    exact ev_neg (by simp) (Ev.now _)
  | succ d ih =>
    intro i n hi hn
    have hp := pow5 i (by omega)
    refine ev_step ?_
    simp only [impl_ReadVar.l0]
    have e1 : wrap64 ((a : Int) + (i : Int)) = ((a + i : Nat) : Int) := by rw [w64 (by omega) (by omega)]; omega
    refine ev_pos (by omega) ?_
    rw [e1]
    refine ev_step ?_
    simp only [impl_ReadVar.j1]
    rw [rv]
    by_cases c1 : a + i < s.size
    · have hb := bt_range s ((a + i : Nat) : Int)
      have hc : wrap64 (bt s ((a + i : Nat) : Int)) = bt s ((a + i : Nat) : Int) := w64 (by omega) (by omega)
      have e2 : wrap64 (7 * (i : Int)) = ((7 * i : Nat) : Int) := by rw [w64 (by omega) (by omega)]; omega
      have e3 : Int.tmod (bt s ((a + i : Nat) : Int)) 128 = (((bt s ((a + i : Nat) : Int)).toNat % 128 : Nat) : Int) := by
        rw [Int.tmod_eq_emod_of_nonneg hb.1]; omega
      have hx : (bt s ((a + i : Nat) : Int)).toNat % 128 < 128 := by omega
      have hm := mul_small _ _ hx hp
      have e4 : wrap64 ((n : Int) + shl .i64 (((bt s ((a + i : Nat) : Int)).toNat % 128 : Nat) : Int) ((7 * i : Nat) : Int)) = ((n + (bt s ((a + i : Nat) : Int)).toNat % 128 * 128 ^ i : Nat) : Int) := by
        rw [shl_pow _ _ hx (by omega), w64 (by omega) (by omega)]; omega
      rw [e1, hc, e2, e3, e4, if_pos c1]
      have hpw : 128 ^ (i + 1) = 128 ^ i * 128 := Nat.pow_succ ..
      clear e4
      generalize 128 ^ i = p at *
      have hl : (bt s ((a + i : Nat) : Int)).toNat % 128 * p ≤ 127 * p := Nat.mul_le_mul_right _ (by omega)
      generalize hQ : (bt s ((a + i : Nat) : Int)).toNat % 128 * p = Q at *
      generalize hM : n + Q = M at *
      rw [decide_eq_true (show ((a + i : Nat) : Int) < (s.size : Int) by omega)]
      refine ev_pos (by first | rfl | trivial) (ev_pos (by omega) (ev_pos (by omega) (ev_pos (by omega) (ev_if (fun c => ?_) (fun c => ?_)))))
      · rw [if_pos c]
        refine ev_bind (impl_varText (M : Int)) ?_
        unfold varText
        by_cases h1 : M ≤ 1000000000
        · rw [if_pos (show 0 ≤ (M : Int) ∧ (M : Int) ≤ 1000000000 by omega), Int.toNat_natCast]
          have e5 : wrap64 ((i : Int) + 1) = ((i + 1 : Nat) : Int) := next64 i (by omega)
          have e6 : wrap64 (((a + i : Nat) : Int) + 1) = ((a + i + 1 : Nat) : Int) := next64 _ (by omega)
          rw [e5, e6]
          refine ev_pos rfl (ev_if (fun h2 => ?_) (fun h2 => ?_))
          · rw [strOfNums_size] at h2
            have h3 : (varL M).length = i + 1 := Int.ofNat_inj.1 h2
            rw [if_pos (And.intro h1 h3)]; exact Ev.now _
          · rw [strOfNums_size] at h2
            have h3 : ¬ (M ≤ 1000000000 ∧ (varL M).length = i + 1) := fun h => h2 (congrArg Int.ofNat h.2)
            rw [if_neg h3]; exact Ev.now _
        · rw [if_neg (show ¬ (0 ≤ (M : Int) ∧ (M : Int) ≤ 1000000000) by omega), if_neg (fun h : M ≤ 1000000000 ∧ (varL M).length = i + 1 => h1 h.1)]
          exact ev_neg (by simp) (Ev.now _)
      · rw [if_neg c, next64 i (by omega)]
        refine ih (i + 1) M (by omega) ?_
        rw [hpw]
        omega
    · rw [decide_eq_false (show ¬ ((a + i : Nat) : Int) < (s.size : Int) by omega), if_neg c1]
      exact ev_neg (by simp) (Ev.now _)
theorem impl_readVar (s : ByteArray) (hs : s.size ≤ 140737488351232) (a : Int) : Ev (fun k => impl_ReadVar.f k s a) (readVarM s a) := by
  unfold impl_ReadVar.f readVarM
  by_cases h : 0 ≤ a ∧ a ≤ (s.size : Int)
  · rw [if_pos h]
    refine ev_cbind (within_true h.1 h.2) (ev_pos rfl ?_)
    have := impl_rv s hs a.toNat (by omega) 5 0 0 (by omega) (by decide)
    rw [Int.toNat_of_nonneg h.1] at this
    exact this
  · rw [if_neg h]
    exact ev_cbind (within_false h) (ev_neg (by simp) (Ev.now _))
/-- What has been read: i bytes that all go on, and their value. -/
def Behind (s : ByteArray) (a i n : Nat) : Prop := ∀ l, Chain l → Chain (bytesAt s a i ++ l) ∧ valL (bytesAt s a i ++ l) = n + valL l * 128 ^ i
theorem bytesAt_succ (s : ByteArray) (a i : Nat) : bytesAt s a (i + 1) = bytesAt s a i ++ [bt s ((a + i : Nat) : Int)] := by
  unfold bytesAt
  rw [List.range_succ, List.map_append]; rfl
theorem behind_zero (s : ByteArray) (a : Nat) : Behind s a 0 0 := by
  intro l hl
  refine ⟨hl, ?_⟩
  show valL l = 0 + valL l * 128 ^ 0
  rw [Nat.pow_zero]; omega
theorem behind_succ (s : ByteArray) (a i n : Nat) (h : Behind s a i n) (hc : ¬ bt s ((a + i : Nat) : Int) < 128) : Behind s a (i + 1) (n + (bt s ((a + i : Nat) : Int)).toNat % 128 * 128 ^ i) := by
  intro l hl
  have hb := bt_range s ((a + i : Nat) : Int)
  rw [bytesAt_succ, List.append_assoc]
  have hl2 : Chain ([bt s ((a + i : Nat) : Int)] ++ l) := by
    cases l with
    | nil => exact hl.elim
    | cons c l => exact ⟨by omega, hb.2, hl⟩
  obtain ⟨h1, h2⟩ := h _ hl2
  refine ⟨h1, ?_⟩
  rw [h2]
  have e : valL ([bt s ((a + i : Nat) : Int)] ++ l) = (bt s ((a + i : Nat) : Int)).toNat % 128 + 128 * valL l := rfl
  rw [e, Nat.add_mul, Nat.pow_succ, Nat.add_assoc]
  congr 2
  rw [Nat.mul_comm 128 (valL l), Nat.mul_assoc, Nat.mul_comm 128]
theorem spec_rv (s : ByteArray) (hs : s.size ≤ 140737488351232) (a : Nat) (ha : a ≤ s.size) : ∀ (d i n : Nat), d + i = 5 → n < 128 ^ i → Behind s a i n → Ev (fun k => spec_ReadVar.l0 k s (a : Int) (n : Int) ((128 ^ i : Nat) : Int) ((a + i : Nat) : Int)) (rv s a d i n) := by
  intro d
  induction d with
  | zero =>
    intro i n hi hn hbe
    have e0 : wrap64 ((a : Int) + 5) = (a : Int) + 5 := w64 (by omega) (by omega)
    refine ev_step ?_
    simp only [spec_ReadVar.l0]
    rw [e0]
    refine ev_if (fun _ => ?_) (fun _ => ?_)
    · refine ev_step ?_
      simp only [spec_ReadVar.j1]
      rw [decide_eq_false (by omega)]
      exact ev_neg (by simp) (Ev.now _)
    · refine ev_step ?_
      simp only [spec_ReadVar.j1]
      exact ev_neg (by simp) (Ev.now _)
  | succ d ih =>
    intro i n hi hn hbe
    have hp := pow5 i (by omega)
    have e0 : wrap64 ((a : Int) + 5) = (a : Int) + 5 := w64 (by omega) (by omega)
    refine ev_step ?_
    simp only [spec_ReadVar.l0]
    rw [rv, e0]
    by_cases c1 : a + i < s.size
    · have hb := bt_range s ((a + i : Nat) : Int)
      have q1 : ((a + i : Nat) : Int) < (s.size : Int) := by omega
      have q2 : ((a + i : Nat) : Int) < (a : Int) + 5 := by omega
      have q3 : 0 ≤ ((a + i : Nat) : Int) := by omega
      have q4 : (0 : Int) ≤ (a : Int) := by omega
      have q5 : (a : Int) ≤ ((a + (i + 1) : Nat) : Int) := by omega
      have q7 : a + (i + 1) ≤ s.size := by omega
      have q6 : ((a + (i + 1) : Nat) : Int) ≤ (s.size : Int) := by omega
      have hc : wrap64 (bt s ((a + i : Nat) : Int)) = bt s ((a + i : Nat) : Int) := w64 (by omega) (by omega)
      have e3 : Int.tmod (bt s ((a + i : Nat) : Int)) 128 = (((bt s ((a + i : Nat) : Int)).toNat % 128 : Nat) : Int) := by
        rw [Int.tmod_eq_emod_of_nonneg hb.1]; omega
      have hx : (bt s ((a + i : Nat) : Int)).toNat % 128 < 128 := by omega
      have hm := mul_small _ _ hx hp
      have e4 : wrap64 ((n : Int) + wrap64 ((((bt s ((a + i : Nat) : Int)).toNat % 128 : Nat) : Int) * ((128 ^ i : Nat) : Int))) = ((n + (bt s ((a + i : Nat) : Int)).toNat % 128 * 128 ^ i : Nat) : Int) := by
        rw [← Int.natCast_mul, w64 (x := (((bt s ((a + i : Nat) : Int)).toNat % 128 * 128 ^ i : Nat) : Int)) (by omega) (by omega), w64 (by omega) (by omega)]; omega
      have e5 : wrap64 (((128 ^ i : Nat) : Int) * 128) = ((128 ^ (i + 1) : Nat) : Int) := pow_next i (by omega)
      have e6 : wrap64 (((a + i : Nat) : Int) + 1) = ((a + (i + 1) : Nat) : Int) := next64 _ (by omega)
      rw [if_pos c1]
      refine ev_pos q1 (ev_step ?_)
      simp only [spec_ReadVar.j1]
      rw [hc, e3, e4, e5, e6, decide_eq_true q2]
      have hpw : 128 ^ (i + 1) = 128 ^ i * 128 := Nat.pow_succ ..
      clear e4 e5
      have hbe1 := hbe [bt s ((a + i : Nat) : Int)]
      have hbe2 := behind_succ s a i n hbe
      have hl : (bt s ((a + i : Nat) : Int)).toNat % 128 * 128 ^ i ≤ 127 * 128 ^ i := Nat.mul_le_mul_right _ (by omega)
      have hv : valL [bt s ((a + i : Nat) : Int)] = (bt s ((a + i : Nat) : Int)).toNat % 128 := by simp only [valL]; omega
      rw [hv] at hbe1
      clear hbe hv
      generalize hQ : (bt s ((a + i : Nat) : Int)).toNat % 128 * 128 ^ i = Q at *
      generalize hM : n + Q = M at *
      have hpn : M < 128 ^ (i + 1) := by rw [hpw]; generalize 128 ^ i = p at *; omega
      clear hn hl hpw hm hp hM hQ
      refine ev_pos (by first | rfl | trivial) (ev_pos q3 (ev_pos q1 (ev_if (fun c => ?_) (fun c => ?_))))
      · rw [if_pos c]
        have hch := hbe1 ⟨hb.1, c⟩
        rw [← bytesAt_succ] at hch
        clear ih hbe2 hpn
        have hvl := varL_val _ hch.1
        rw [hch.2] at hvl
        have hlen : (bytesAt s a (i + 1)).length = i + 1 := by simp [bytesAt]
        rw [hlen] at hvl
        refine ev_if (fun h1 => ?_) (fun h1 => ?_)
        · have hM1 : ¬ M ≤ 1000000000 := by clear hvl hch; omega
          rw [if_neg (fun h : M ≤ 1000000000 ∧ (varL M).length = i + 1 => hM1 h.1)]; exact Ev.now _
        · have hM1 : M ≤ 1000000000 := by clear hvl hch; omega
          refine ev_bind (spec_var' M hM1) (ev_pos q4 (ev_pos q5 (ev_pos q6 ?_)))
          have e7 : (((a : Nat) : Int) : Int).toNat = a := Int.toNat_natCast a
          have e8 : (((a + (i + 1) : Nat) : Int) : Int).toNat = a + (i + 1) := Int.toNat_natCast _
          rw [e7, e8, extract_bytesAt s a (i + 1) q7]
          refine ev_if (fun h2 => ?_) (fun h2 => ?_)
          · have h3 : varL M = bytesAt s a (i + 1) := strOfNums_inj (varL_range M) (bytesAt_range s a (i + 1)) (toList_inj h2)
            rw [if_pos (And.intro hM1 (by rw [h3, hlen]))]; exact Ev.now _
          · have h6 : ¬ (M ≤ 1000000000 ∧ (varL M).length = i + 1) := by
              rintro ⟨_, h4⟩
              rcases hvl with h5 | h5
              · exact h2 (by rw [h5])
              · rw [h4] at h5; exact Nat.lt_irrefl _ h5
            rw [if_neg h6]
            exact Ev.now _
      · rw [if_neg c]
        exact ih (i + 1) M (by omega) hpn (hbe2 c)
    · rw [if_neg c1]
      refine ev_neg (by omega) (ev_step ?_)
      simp only [spec_ReadVar.j1]
      exact ev_neg (by simp) (Ev.now _)
theorem spec_readVar (s : ByteArray) (hs : s.size ≤ 140737488351232) (a : Int) : Ev (fun k => spec_ReadVar.f k s a) (readVarM s a) := by
  unfold spec_ReadVar.f readVarM
  by_cases h : 0 ≤ a ∧ a ≤ (s.size : Int)
  · rw [if_pos h]
    refine ev_cbind (in_true h.1 h.2) (ev_pos rfl ?_)
    have := spec_rv s hs a.toNat (by omega) 5 0 0 (by omega) (by decide) (behind_zero s a.toNat)
    have e1 : ((a.toNat + 0 : Nat) : Int) = a := by omega
    have e2 : ((a.toNat : Nat) : Int) = a := by omega
    rw [e1, e2] at this
    exact this
  · rw [if_neg h]
    exact ev_cbind (in_false h) (ev_neg (by simp) (Ev.now _))

theorem FnExactReadVar : laws_FnExactReadVar.Pure := by
  intro s a hs ha
  refine ev_at ?_
  unfold laws_FnExactReadVar.f
  exact ev_if (fun _ => Ev.now _) (fun _ => ev_bind (spec_readVar s hs a) (ev_bind (impl_readVar s hs a) (ev_pos rfl (ev_pos rfl (ev_neg (by simp) (Ev.now _))))))

end Go.Proofs.Ytohdlnngfblmbaa.Pure
