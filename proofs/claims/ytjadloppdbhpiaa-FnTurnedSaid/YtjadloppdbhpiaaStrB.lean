/- A row of bytes that '[]byte(s)' lays: what it holds, how it is read, stored into and made a text again; its mark lies behind its end. Conditions: as each theorem states. -/
import Derived.Test.YtjadloppdbhpiaaStrCmp
import Derived.Test.YtjadloppdbhpiaaWWords
import Derived.Test.YtjadloppdbhpiaaWMore
import Derived.Lib.ConvBytes
namespace Go.Proofs.YtjadloppdbhpiaaW.StrB
open Go.RowKit Go.Proofs.YtjadloppdbhpiaaW.PrintWords
set_option linter.unusedVariables false
/-- A row of bytes of the call's own, a mark behind its end. -/
def FB (e : Nat) (w : World) (base : Nat) (v : Value) (xs : List Int) : Prop :=
  ∃ g cap cur lo hi, v = .slice (some ⟨g, 0, none⟩) xs.length cap ∧ base ≤ g ∧ w.heap[g]? = some (.cells cur e (lo, hi)) ∧ xs.length ≤ cap ∧ cap ≤ lo ∧ ∀ j : Nat, j < xs.length → cur[j]? = some (.int .u8 (xs.getD j 0))
theorem heap_lt {w : World} {g : Nat} {o : Obj} (h : w.heap[g]? = some o) : g < w.heap.size := by
  rcases Nat.lt_or_ge g w.heap.size with h' | h'
  · exact h'
  · rw [Array.getElem?_eq_none h'] at h; cases h
section
variable {e base : Nat} {w w1 : World} {v : Value} {xs : List Int}
theorem FB.below (h : FB e w base v xs) (hb : Below w.heap.size w w1) : FB e w1 base v xs := by
  obtain ⟨g, cap, cur, lo, hi, h1, h2, h3, h4⟩ := h
  exact ⟨g, cap, cur, lo, hi, h1, h2, (hb.block g (heap_lt h3)).trans h3, h4⟩
theorem FB.drew (h : FB e w base v xs) : FB e w.drew base v xs := h.below (below_drew (Below.refl _ _))
theorem FB.slice (h : FB e w base v xs) : ∃ A c, v = .slice A xs.length c := by
  obtain ⟨g, cap, cur, lo, hi, h1, _⟩ := h
  exact ⟨_, _, h1⟩
theorem FB.at_int {A : Option Addr} {n c : Nat} (h : FB e w base (.slice A n c) xs) (i : Int) (h0 : 0 ≤ i) (h1 : i < xs.length) : ∃ ad, A = some ad ∧ w.cell? (ad.add i.toNat) = some (.int .u8 (rd xs i)) := by
  obtain ⟨g, cap, cur, lo, hi, h2, _, h3, _, _, h4⟩ := h
  injection h2 with h2 _ _
  refine ⟨_, h2, ?_⟩
  rw [add_plain]
  simp only [World.cell?, h3]
  exact h4 i.toNat (by omega)
theorem FB.form (h : FB e w base v xs) (hp : 0 < xs.length) : ∃ g cap, v = .slice (some ⟨g, 0, none⟩) xs.length cap ∧ base ≤ g ∧ g < w.heap.size ∧ ∃ cells f, w.heap[g]? = some (.cells cells e f) := by
  obtain ⟨g, cap, cur, lo, hi, h1, h2, h3, h4⟩ := h
  exact ⟨g, cap, h1, h2, heap_lt h3, cur, _, h3⟩
theorem FB.celln {g n cap : Nat} (h : FB e w base (.slice (some ⟨g, 0, none⟩) n cap) xs) (i : Int) (h0 : 0 ≤ i) (hi : i < n) : w.cell? ⟨g, i.toNat, none⟩ = some (.int .u8 (rd xs i)) ∧ w.frozen? ⟨g, i.toNat, none⟩ = false := by
  obtain ⟨g', cap', cur, lo, hi', h2, _, h3, h5, h6, h4⟩ := h
  injection h2 with h2 hn hc
  injection h2 with h2
  injection h2 with h2
  subst h2
  refine ⟨?_, ?_⟩
  · simp only [World.cell?, h3]
    exact h4 i.toNat (by omega)
  · have : ¬ lo ≤ i.toNat := by omega
    simp [World.frozen?, h3, this]
theorem FB.putn {g n cap : Nat} (h : FB e w base (.slice (some ⟨g, 0, none⟩) n cap) xs) (i x : Int) : FB e (w.setCell ⟨g, i.toNat, none⟩ (.int .u8 x)) base (.slice (some ⟨g, 0, none⟩) n cap) (xs.set i.toNat x) := by
  obtain ⟨g', cap', cur, lo, hi', h2, hb, h3, h5, h6, h4⟩ := h
  injection h2 with h2 hn hc
  injection h2 with h2
  injection h2 with h2
  subst h2 hn hc
  refine ⟨g, cap, cur.setIfInBounds i.toNat (.int .u8 x), lo, hi', by rw [List.length_set], hb, ?_, by rw [List.length_set]; exact h5, h6, ?_⟩
  · simp [World.setCell, Array.getElem?_modify, h3]
  · intro j hj
    rw [List.length_set] at hj
    have h7 := h4 j hj
    rw [Array.getElem?_setIfInBounds, List.getD_eq_getElem?_getD, List.getElem?_set]
    have hj2 : j < cur.size := by
      rcases Nat.lt_or_ge j cur.size with h' | h'
      · exact h'
      · rw [Array.getElem?_eq_none h'] at h7; cases h7
    by_cases c : i.toNat = j
    · subst c
      rw [if_pos rfl, if_pos rfl, if_pos hj, if_pos hj2]
      rfl
    · rw [if_neg c, if_neg c, h7, List.getD_eq_getElem?_getD]
theorem FB.string {P : Program} {src dst : TypeId} (hs : P.underlying src = some (.slice e)) (he : P.underlying e = some (.int .u8)) (hd : P.underlying dst = some .string) (h : FB e w base v xs) : (convert src dst v).run P w = .ok (.string (strOfNums xs)) w := by
  obtain ⟨g, cap, cur, lo, hi', rfl, hb, h3, h5, h6, h4⟩ := h
  refine run_convert_bytes_arg w src e hs he g 0 xs.length cap xs rfl (fun i hi => ?_) dst hd
  simp only [World.cell?, h3, Nat.zero_add]
  exact h4 i hi
/-- A row of whole numbers, beside it. -/
theorem FB.apart {k : IntKind} {e2 : Nat} {ok : Nat → Prop} {u : Value} {ys : List Int} (H : (Kd.int k).R e2 w base ok u ys) {g : Nat} {cells : Array Value} {f : Nat × Nat} (hg : w.heap[g]? = some (.cells cells e f)) (ht : e2 ≠ e) : (Kd.int k).R e2 w base (fun j => ok j ∧ j ≠ g) u ys := by
  have ho := Kd.own_of_R H
  refine Kd.R_of_own ho (fun j hj => ⟨H.1 j hj, fun hjg => ?_⟩)
  subst hjg
  rcases ho.2 with ⟨rfl, _⟩ | ⟨g', cap, cur, rfl, _, h3, _⟩
  · cases hj
  · injection hj with hj
    simp only at hj
    subst hj
    rw [h3] at hg
    injection hg with hg
    injection hg with _ hg _
    exact ht hg
end
section
variable {P : Program} {ops : Array Oper} {rest : List Oper} {o : Oper} {a : Act} {Q : Exit → Act → World → Prop}
/-- The conversion: a new row, a draw. -/
theorem print_strb {w0 W : World} (base : Nat) (hgd : o.guard = none) (x : Operand) (t u e : TypeId) (ho : o.op = .convert u t x)
    (ht : P.underlying t = some (.slice e)) (hu : P.underlying u = some .string) (he : P.underlying e = some (.int .u8))
    (y : ByteArray) (hx : a.eval x = .string y) (HB : Below base w0 W) (hbase : base ≤ W.heap.size)
    (h : ∀ v1 w1, FB e w1 base v1 (([] : List Int) ++ bytesOf y) → Below base w0 w1 → W.grownBy w1 (Value.slice none 0 0).ownBlock → wpList P ops Q rest (a.put o.dst v1) w1) :
    wpList P ops Q (o :: rest) a W := by
  refine wpList_plain hgd fun K hK => ?_
  unfold Oper.wp
  have hrun := print_bytes (P := P) u t e hu ht he y W
  have e1 : (execOp a.eval o).run P W = .ok (.value (.slice (some ⟨W.heap.size, 0, none⟩) y.size (grownCap W y.size 0 e))) (Lib.bytesWorld W e y) := by
    unfold execOp
    simp only [ho, hx, Sem.run_bind, Sem.run_pure, hrun, Result.andThen_ok]
  rw [e1]
  have hle : y.size ≤ grownCap W y.size 0 e := grownCap_ge W y.size 0 e
  refine hK _ _ (h _ _ ⟨W.heap.size, grownCap W y.size 0 e, Lib.bytesCells W e y, _, _, ?_, hbase, Lib.bytesWorld_at_new W e y, ?_, ?_, ?_⟩ ?_ ?_)
  · rw [List.nil_append, bytesOf_length]
  · rw [List.nil_append, bytesOf_length]; exact hle
  · have : (Lib.bytesCells W e y).size = y.size + (grownCap W y.size 0 e - y.size) := by
      unfold Lib.bytesCells
      simp
    omega
  · intro j hj
    rw [List.nil_append, bytesOf_length] at hj
    have hc := Lib.bytesWorld_cell W e y j hj
    simp only [World.cell?, Lib.bytesWorld_at_new, Option.isSome_none, Bool.false_eq_true, if_false] at hc
    rw [hc, List.nil_append]
    have h' : j < y.data.toList.length := by rw [data_length]; exact hj
    simp [bytesOf, List.getD_eq_getElem?_getD, List.getElem?_eq_getElem h']
  · exact HB.trans ⟨rfl, rfl, rfl, by rw [Lib.bytesWorld_size]; omega, fun i hi => Lib.bytesWorld_at_old W e y i (by omega)⟩
  · exact ⟨rfl, rfl, rfl, by rw [Lib.bytesWorld_size]; omega, fun k hk _ => Lib.bytesWorld_at_old W e y k hk⟩
end
end Go.Proofs.YtjadloppdbhpiaaW.StrB
