/- slices.Insert of one element into a row of the call's own, whatever room it has: what the row holds behind it. Conditions: as each theorem states. -/
import Derived.Test.YtjadloppdbhpiaaProg
import Derived.Test.YtjadloppdbhpiaaWWords
import Derived.Test.YtjadloppdbhpiaaWLast
import Derived.Shelf.RegionOpenPlain
import Derived.Lib.Overlaps
import Derived.Lib.AppendZerosOnto
import Derived.Laws.CopyRow
import Derived.Laws.Externs
import Derived.WalkKit
namespace Go.Proofs.YtjadloppdbhpiaaW.InsV
open Go.RowKit Go.Proofs Go.Lib Go.Proofs.YtjadloppdbhpiaaW.PrintWords Go.Proofs.YtjadloppdbhpiaaW.PrintLast
set_option linter.unusedVariables false
set_option linter.unusedSimpArgs false
theorem run_copy_rowK {P : Program} (w : World) (dT sT ty elem : TypeId) (K g o dLen dCap : Nat) (a : Addr) (sLen sCap : Nat) (cur : Array Value) (t : TypeId) (cs : List Value)
    (hu : P.underlying dT = some (.slice elem)) (hs : (P.info? elem).map (·.size) = some K)
    (hg : w.heap[g]? = some (.cells cur t (0, 0))) (hn : cs.length = Nat.min sLen dLen * K)
    (hsrc : ∀ j v, cs[j]? = some v → w.cell? (a.add j) = some v) (hfit : o + cs.length ≤ cur.size) (h1 : ∀ v ∈ cs, v.oneCell' = true) :
    (Builtin.copy_ #[dT, sT] ty #[.slice (some ⟨g, o, none⟩) dLen dCap, .slice (some a) sLen sCap]).run P w =
      .ok (goInt (Nat.min sLen dLen)) (w.setRow g (cur.toList.take o ++ cs ++ cur.toList.drop (o + cs.length)).toArray) := by
  have hl := run_loadCells_list (P := P) w a cs hsrc
  have hst := run_storeCells_at P g o t cs 0 cur w hg (by simpa using hfit) h1
  cases hq : P.info? elem with
  | none => simp [hq] at hs
  | some i =>
    have hi : i.size = K := by simpa [hq] using hs
    simp [Builtin.copy_, run_underlying hu, Builtin.lenOf, Builtin.firstCells, sizeOf, typeInfo, hq, hi, ← hn, hl, hst]
theorem wp_copy_runI (w : World) {P : Program} {o : Oper} {a : Act} {K : Act → World → Prop} {Q : Exit → Act → World → Prop} (d s : Operand) (t t' : TypeId)
    (ho : o.op = .call { callee := .builtin .copy, args := #[d, s], argTypes := #[t, t'] }) (v u : Value) (hd : a.eval d = v) (hs : a.eval s = u) {v' : Value} {w' : World}
    (hr : (Builtin.copy_ #[t, t'] o.type #[v, u]).run P w = .ok v' w') (h : K (a.put o.dst v') w') : o.wp P a w K Q := by
  unfold Oper.wp execOp
  simp only [ho, resolve, invoke, builtin, Sem.run_bind, Sem.run_pure, Result.andThen_ok, List.map_toArray, List.map_cons, List.map_nil, hd, hs, hr]
  exact h
theorem wpList_copy_runI (w : World) {P : Program} {ops : Array Oper} {rest : List Oper} {o : Oper} {a : Act} {Q : Exit → Act → World → Prop} (hgd : o.guard = none) (d s : Operand) (t t' : TypeId)
    (ho : o.op = .call { callee := .builtin .copy, args := #[d, s], argTypes := #[t, t'] }) (v u : Value) (hd : a.eval d = v) (hs : a.eval s = u) {v' : Value} {w' : World}
    (hr : (Builtin.copy_ #[t, t'] o.type #[v, u]).run P w = .ok v' w') (h : wpList P ops Q rest (a.put o.dst v') w') : wpList P ops Q (o :: rest) a w :=
  wpList_plain hgd fun _ hK => wp_copy_runI w d s t t' ho v u hd hs hr (hK _ _ h)
theorem step_copy_runI {P : Program} {ops : Array Oper} {o : Oper} {a : Act} {w : World} {K : Act → World → Prop} {Q : Exit → Act → World → Prop} {E : Prop}
    (hg : o.guard = none) (d x : Operand) (dT sT : TypeId) (hop : o.op = Op.call { callee := Callee.builtin Builtin.copy, args := #[d, x], argTypes := #[dT, sT] })
    (v u : Value) (hd : a.eval d = v) (hx : a.eval x = u) {v' : Value} {w' : World} (hr : (Builtin.copy_ #[dT, sT] o.type #[v, u]).run P w = .ok v' w') (hK : K (a.put o.dst v') w') :
    if Region.wanted o (yielded ops a.tmps) = true then Oper.wp P o a w K Q else E := by
  have hw : Region.wanted o (yielded ops a.tmps) = true := by simp [Region.wanted, hg]
  rw [if_pos hw]
  unfold Oper.wp
  simp [execOp, hop, resolve, invoke, builtin, hd, hx, hr, Result.andThen]
  exact hK
theorem infoE : (Try.prog.info? 57).map (fun i => (i.zero, i.size, i.bytes)) = some (some (.agg #[.string ⟨#[]⟩, .string ⟨#[]⟩, .bool false, .int .i64 0]), 4, 48) := by kernel_rfl
theorem infoS : (Try.prog.info? 57).map (·.size) = some 4 := by kernel_rfl
def Post (W : World) (base n k : Nat) (v : Value) (inner vs : List Value) (r : Ending) (w1 : World) : Prop :=
  ∃ v1, r = .returned v1 ∧ w1.ownsRow base 57 4 v1 (n + 1) (inner.take (k * 4) ++ vs ++ inner.drop (k * 4)) ∧ W.grownBy w1 v.ownBlock ∧ (v1.ownBlock = v.ownBlock ∨ ∃ b, v1.ownBlock = some b ∧ W.heap.size ≤ b)
theorem ins_rows (c inner vs : List Value) (n k cap : Nat) (hc : c.length = cap * 4) (hi : c.take (n * 4) = inner) (hv : vs.length = 4) (hk : k < n) (hcap : n + 1 ≤ cap) :
    ((c.take ((k + 1) * 4) ++ inner.drop (k * 4) ++ c.drop ((k + 1) * 4 + (inner.drop (k * 4)).length)).take (k * 4) ++ vs ++ (c.take ((k + 1) * 4) ++ inner.drop (k * 4) ++ c.drop ((k + 1) * 4 + (inner.drop (k * 4)).length)).drop (k * 4 + vs.length)) = inner.take (k * 4) ++ vs ++ inner.drop (k * 4) ++ c.drop ((n + 1) * 4) := by
  have hil : inner.length = n * 4 := by rw [← hi, List.length_take]; omega
  have hdl : (inner.drop (k * 4)).length = n * 4 - k * 4 := by rw [List.length_drop, hil]
  have htl : (c.take ((k + 1) * 4)).length = (k + 1) * 4 := by rw [List.length_take]; omega
  have e1 : (c.take ((k + 1) * 4) ++ inner.drop (k * 4) ++ c.drop ((k + 1) * 4 + (inner.drop (k * 4)).length)).take (k * 4) = inner.take (k * 4) := by
    rw [List.append_assoc, List.take_append_of_le_length (by omega), List.take_take, ← hi, List.take_take]
    congr 1
    omega
  have e2 : (c.take ((k + 1) * 4) ++ inner.drop (k * 4) ++ c.drop ((k + 1) * 4 + (inner.drop (k * 4)).length)).drop (k * 4 + vs.length) = inner.drop (k * 4) ++ c.drop ((n + 1) * 4) := by
    rw [List.append_assoc, hv, List.drop_append, htl, List.drop_eq_nil_of_le (by omega), show k * 4 + 4 - (k + 1) * 4 = 0 by omega, List.drop_zero, List.nil_append, hdl, show (k + 1) * 4 + (n * 4 - k * 4) = (n + 1) * 4 by omega]
  rw [e1, e2, ← List.append_assoc]
theorem grown_row {W X : World} {g : Nat} (h : W.grownBy X (some g)) (row : Array Value) : W.grownBy (X.setRow g row) (some g) :=
  ⟨h.os, h.tape, h.output, by rw [setRow_size]; exact h.size, fun k hk hne => by rw [setRow_other X g k row (fun e => hne (by rw [e]))]; exact h.block k hk hne⟩
theorem grown_drew {W X : World} {r : Option Nat} (h : W.grownBy X r) : W.grownBy X.drew r := ⟨h.os, h.tape, h.output, h.size, h.block⟩
set_option maxHeartbeats 4000000 in
set_option maxRecDepth 100000 in
/-- At the end. -/
theorem insert_end (W : World) (base n : Nat) (v : Value) (inner vs : List Value) (HO : W.ownsRow base 57 4 v n inner) (hbase : base ≤ W.heap.size) (hvs : vs.length = 4) (h1 : ∀ u ∈ vs, u.oneCell' = true) (hl : (n + 1) * 48 ≤ 140737488355328) :
    Calls Try.prog 62 #[v, .int .i64 n, .slice (some ⟨W.heap.size, 0, none⟩) 1 1] (W.alloc (.cells vs.toArray 57)) (Post W base n n v inner vs) := by
  have hlen := HO.1
  have ht : inner.take (n * 4) = inner := List.take_of_length_le (by omega)
  have hd : inner.drop (n * 4) = [] := List.drop_eq_nil_of_le (by omega)
  have key : ∀ v1 w1, w1.ownsRow base 57 4 v1 (n + 1) (inner ++ vs) → W.grownBy w1 v.ownBlock → (v1.ownBlock = v.ownBlock ∨ ∃ b, v1.ownBlock = some b ∧ W.heap.size ≤ b) → Post W base n n v inner vs (.returned v1) w1 := fun v1 w1 a b c => ⟨v1, rfl, by rw [ht, hd, List.append_nil]; exact a, b, c⟩
  rcases HO.2 with ⟨rfl, rfl⟩ | ⟨g, cap, cur, rfl, hg0, hh, hnc, hcm, hcs, hct⟩
  · go_enter Try.func62, Try.ntmps62
    go_wp2_with (at_builtin; refine print_append_cells (w0 := W) base rfl _ _ 34 57 (.agg #[.string ⟨#[]⟩, .string ⟨#[]⟩, .bool false, .int .i64 0]) 4 48 rfl Try.underlying34 infoE rfl (by decide) (by decide) (.slice none 0 0) 0 inner vs rfl rfl hvs h1 HO ⟨rfl, rfl, rfl, Nat.le_refl _, fun _ _ => rfl⟩ hbase hl ?_; intro v1 w1 hown hb hg hat)
    go_ret
    exact key v1 w1 hown hg hat
  · unfold maxLen at hcm
    have hcm2 : cap ≤ 9223372036854775807 := hcm
    go_enter Try.func62, Try.ntmps62
    go_wp2_with (at_builtin; refine print_append_cells (w0 := W) base rfl _ _ 34 57 (.agg #[.string ⟨#[]⟩, .string ⟨#[]⟩, .bool false, .int .i64 0]) 4 48 rfl Try.underlying34 infoE rfl (by decide) (by decide) (.slice (some ⟨g, 0, none⟩) n cap) n inner vs rfl rfl hvs h1 HO ⟨rfl, rfl, rfl, Nat.le_refl _, fun _ _ => rfl⟩ hbase hl ?_; intro v1 w1 hown hb hg hat)
    all_goals (go_ret; exact key v1 w1 hown hg hat)
set_option maxHeartbeats 4000000 in
set_option maxRecDepth 100000 in
/-- Ahead of others, with room. -/
theorem insert_room (W : World) (base n k g cap : Nat) (cur : Array Value) (inner vs : List Value) (hlen : inner.length = n * 4) (hg0 : base ≤ g) (hh : W.heap[g]? = some (.cells cur 57 (0, 0))) (hcm : cap ≤ maxLen) (hcs : cur.size = cap * 4) (hct : cur.toList.take (n * 4) = inner)
    (hk : k < n) (hroom : n + 1 ≤ cap) (hvs : vs.length = 4) (h1 : ∀ u ∈ vs, u.oneCell' = true) (h1i : ∀ u ∈ inner, u.oneCell' = true) :
    Calls Try.prog 62 #[.slice (some ⟨g, 0, none⟩) n cap, .int .i64 k, .slice (some ⟨W.heap.size, 0, none⟩) 1 1] (W.alloc (.cells vs.toArray 57)) (Post W base n k (.slice (some ⟨g, 0, none⟩) n cap) inner vs) := by
  have hcm2 : cap ≤ 9223372036854775807 := hcm
  have hgl : g < W.heap.size := blk_lt hh
  have hgn : g ≠ W.heap.size := by omega
  obtain ⟨W0, hW0⟩ : ∃ W0, W0 = W.alloc (.cells vs.toArray 57) := ⟨_, rfl⟩
  have hb0 : W0.heap[W.heap.size]? = some (.cells vs.toArray 57 (0, 0)) := by rw [hW0]; exact heap_alloc_new W _
  have hgh : W0.heap[g]? = some (.cells cur 57 (0, 0)) := by rw [hW0]; exact blk_alloc hh _
  have hsz0 : W0.heap.size = W.heap.size + 1 := by rw [hW0]; simp
  have hgb0 : W.grownBy W0 (some g) := by rw [hW0]; exact World.grownBy_alloc W _ _
  rw [← hW0]
  clear hW0
  have hsa : W0.shape? W.heap.size = some (57, vs.toArray.size) := by simp [World.shape?, hb0]
  have hsb : W0.shape? g = some (57, cur.size) := by simp [World.shape?, hgh]
  have hov : ∀ off lb cb, (callFunc 71 #[.slice (some ⟨W.heap.size, 0, none⟩) 1 1, .slice (some ⟨g, off, none⟩) lb cb]).run Try.prog W0 = .ok (.value (.bool false)) W0 := fun off lb cb => by
    rw [run_callFunc_extern Try.func71 (by kernel_rfl) (by kernel_rfl) (by kernel_rfl) (e := Extern.SlicesOverlaps.overlaps #[34, 34] #[4]) (by kernel_rfl),
      Lib.run_overlaps_apart W0 34 4 57 Try.underlying34 4 (fun _ => rfl) ⟨W.heap.size, 0, none⟩ ⟨g, off, none⟩ 1 1 lb cb (fun h => hgn h.symm) 57 57 vs.toArray.size cur.size hsa hsb (by omega) (by simp [World.frozen?, hb0]) (by simp [World.frozen?, hb0])]
    rfl
  have hz2 : ¬ ((k : Int) = (n : Int)) := by omega
  have hw1 : IntKind.i64.wrap ((k : Int) + 1) = (k : Int) + 1 := by rw [IntKind.wrap_i64]; omega
  have hw2 : IntKind.i64.wrap ((n : Int) + 1) = (n : Int) + 1 := by rw [IntKind.wrap_i64]; omega
  have hgt : ¬ ((cap : Int) < (n : Int) + 1) := by omega
  have htn : ((k : Int) + 1).toNat = k + 1 := by omega
  have htn2 : ((n : Int) + 1).toNat = n + 1 := by omega
  have hb1 : (0 : Int) ≤ (k : Int) + 1 := by omega
  have hb2 : (0 : Int) ≤ (n : Int) + 1 := by omega
  have hb3 : (n : Int) + 1 ≤ (cap : Int) := by omega
  have hb4 : (k : Int) + 1 ≤ (n : Int) + 1 := by omega
  have hb5 : (k : Int) ≤ (n : Int) + 1 := by omega
  have hin : k ≤ n := by omega
  have hb6 : ¬ (cap = k + 1) := by omega
  have hb7 : ¬ (cap = k) := by omega
  have hdl : (inner.drop (k * 4)).length = (n - k) * 4 := by rw [List.length_drop, hlen]; omega
  have hcul : cur.toList.length = cap * 4 := by rw [Array.length_toList, hcs]
  obtain ⟨r1, hr1⟩ : ∃ r1, r1 = (cur.toList.take ((k + 1) * 4) ++ inner.drop (k * 4) ++ cur.toList.drop ((k + 1) * 4 + (inner.drop (k * 4)).length)).toArray := ⟨_, rfl⟩
  have hcell : ∀ j v, (inner.drop (k * 4))[j]? = some v → W0.drew.cell? (Addr.add ⟨g, k * 4, none⟩ j) = some v := fun j v hj => by
    have hlt : k * 4 + j < n * 4 := by
      have := (List.getElem?_eq_some_iff.1 hj).1
      omega
    rw [Addr.add_lit]
    rw [List.getElem?_drop, ← hct, List.getElem?_take, if_pos hlt] at hj
    have : W0.drew.heap[g]? = some (.cells cur 57 (0, 0)) := hgh
    simp only [World.cell?, this]
    simpa using hj
  have hcp1 : ∀ ty dc sc, (Builtin.copy_ #[34, 34] ty #[.slice (some ⟨g, (k + 1) * 4, none⟩) (n - k) dc, .slice (some ⟨g, k * 4, none⟩) (n + 1 - k) sc]).run Try.prog W0.drew = .ok (goInt ((Nat.min (n + 1 - k) (n - k) : Nat) : Int)) (W0.drew.setRow g r1) := fun ty dc sc => by
    rw [hr1]
    exact run_copy_rowK W0.drew 34 34 ty 57 4 g ((k + 1) * 4) (n - k) dc ⟨g, k * 4, none⟩ (n + 1 - k) sc cur 57 (inner.drop (k * 4)) Try.underlying34 infoS hgh (by rw [hdl, show Nat.min (n + 1 - k) (n - k) = n - k by simp only [Nat.min_def]; split <;> omega]) hcell (by rw [hdl]; omega) (fun v hv => h1i v (List.mem_of_mem_drop hv))
  obtain ⟨W1, hW1⟩ : ∃ W1, W1 = W0.drew.setRow g r1 := ⟨_, rfl⟩
  have hg1 : W1.heap[g]? = some (.cells r1 57 (0, 0)) := by rw [hW1]; exact setRow_heap W0.drew g cur r1 57 (0, 0) hgh
  have hv1 : W1.heap[W.heap.size]? = some (.cells vs.toArray 57 (0, 0)) := by rw [hW1, setRow_other _ _ _ _ (fun h => hgn h.symm)]; exact hb0
  have hgb1 : W.grownBy W1 (some g) := by rw [hW1]; exact grown_row (grown_drew hgb0) r1
  rw [← hW1] at hcp1
  clear hW1
  have hr1l : r1.size = cap * 4 := by
    rw [hr1]
    simp only [List.size_toArray, List.length_append, List.length_take, List.length_drop, hcul, hdl]
    omega
  obtain ⟨r2, hr2⟩ : ∃ r2, r2 = (r1.toList.take (k * 4) ++ vs ++ r1.toList.drop (k * 4 + vs.length)).toArray := ⟨_, rfl⟩
  have hcp2 : ∀ X : World, X.heap = W1.heap → ∀ ty dc vc, (Builtin.copy_ #[34, 34] ty #[.slice (some ⟨g, k * 4, none⟩) (n + 1 - k) dc, .slice (some ⟨W.heap.size, 0, none⟩) 1 vc]).run Try.prog X = .ok (goInt ((Nat.min 1 (n + 1 - k) : Nat) : Int)) (X.setRow g r2) := fun X hX ty dc vc => by
    rw [hr2]
    exact run_copy_rowK X 34 34 ty 57 4 g (k * 4) (n + 1 - k) dc ⟨W.heap.size, 0, none⟩ 1 vc r1 57 vs Try.underlying34 infoS (by rw [hX]; exact hg1) (by rw [hvs, show Nat.min 1 (n + 1 - k) = 1 by simp only [Nat.min_def]; split <;> omega]) (fun j v hj => by
      have hX2 : X.heap[W.heap.size]? = some (.cells vs.toArray 57 (0, 0)) := by rw [hX]; exact hv1
      rw [add_plain]
      simp only [World.cell?, hX2]
      simpa using hj) (by rw [hvs, hr1l]; omega) h1
  have hrow : r2.toList = inner.take (k * 4) ++ vs ++ inner.drop (k * 4) ++ cur.toList.drop ((n + 1) * 4) := by
    rw [hr2, hr1]
    exact ins_rows cur.toList inner vs n k cap hcul hct hvs hk hroom
  have fin : ∀ X : World, W.grownBy X (some g) → X.heap = W1.heap → Post W base n k (.slice (some ⟨g, 0, none⟩) n cap) inner vs (.returned (.slice (some ⟨g, 0, none⟩) (n + 1) cap)) (X.setRow g r2) := fun X hX hXh => by
    have hXg : X.heap[g]? = some (.cells r1 57 (0, 0)) := by rw [hXh]; exact hg1
    have hpl : (inner.take (k * 4) ++ vs ++ inner.drop (k * 4)).length = (n + 1) * 4 := by
      simp only [List.length_append, List.length_take, hdl, hvs, hlen]
      omega
    refine ⟨_, rfl, ⟨hpl, .inr ⟨g, cap, r2, rfl, hg0, setRow_heap X g r1 r2 57 (0, 0) hXg, hroom, hcm, ?_, ?_⟩⟩, grown_row hX r2, .inl rfl⟩
    · rw [← Array.length_toList, hrow]
      simp only [List.length_append, List.length_take, List.length_drop, hdl, hvs, hlen, hcul]
      omega
    · rw [hrow, List.take_append_of_le_length (Nat.le_of_eq hpl.symm), List.take_of_length_le (Nat.le_of_eq hpl)]
  clear hcell hr1 hr2 hrow
  have mixed : Try.prog.follows .mixedOrders = true := rfl
  go_enter Try.func62, Try.ntmps62
  go_wp2_with (simp only [hov])
  go_region_law_o (refine step_copy_runI rfl _ _ 34 34 rfl _ _ (by simp [Act.eval, Act.put]) (by simp [Act.eval, Act.put]) (hcp1 _ _ _) ?_)
  go_wp2_with (at_builtin; refine wpList_copy_runI _ rfl _ _ 34 34 rfl _ _ rfl rfl (hcp2 _ rfl _ _ _) ?_)
  go_ret
  exact fin _ hgb1 rfl
theorem drop_over (A D : List Value) (L : Nat) : (A ++ D).drop (A.length + L) = D.drop L := by rw [List.drop_append, List.drop_eq_nil_of_le (Nat.le_add_right _ _), List.nil_append, Nat.add_sub_cancel_left]
theorem ins_grow_rows (R inner vs : List Value) (n k G : Nat) (hi : inner.length = n * 4) (hR : R.length = G * 4) (hRt : R.take (k * 4) = inner.take (k * 4)) (hv : vs.length = 4) (hk : k < n) (hG : n + 1 ≤ G) :
    ((R.take (k * 4) ++ vs ++ R.drop (k * 4 + vs.length)).take ((k + 1) * 4) ++ inner.drop (k * 4) ++ (R.take (k * 4) ++ vs ++ R.drop (k * 4 + vs.length)).drop ((k + 1) * 4 + (inner.drop (k * 4)).length)) = inner.take (k * 4) ++ vs ++ inner.drop (k * 4) ++ R.drop ((n + 1) * 4) := by
  have hdl : (inner.drop (k * 4)).length = n * 4 - k * 4 := by rw [List.length_drop, hi]
  have htl : (R.take (k * 4)).length = k * 4 := by rw [List.length_take]; omega
  have h0 : (R.take (k * 4) ++ vs).length = (k + 1) * 4 := by rw [List.length_append, htl, hv]; omega
  have h2 : (R.take (k * 4) ++ vs ++ R.drop (k * 4 + vs.length)).drop ((k + 1) * 4 + (inner.drop (k * 4)).length) = R.drop ((n + 1) * 4) := by
    rw [← h0, drop_over, List.drop_drop, hdl, hv]
    congr 1
    omega
  rw [h2, List.take_append_of_le_length (by omega), List.take_of_length_le (by omega), hRt]
theorem grown_rowN {W X : World} {r : Option Nat} {g : Nat} (h : W.grownBy X r) (row : Array Value) (hg : W.heap.size ≤ g) : W.grownBy (X.setRow g row) r :=
  ⟨h.os, h.tape, h.output, by rw [setRow_size]; exact h.size, fun k hk hne => by rw [setRow_other X g k row (by omega)]; exact h.block k hk hne⟩
set_option maxHeartbeats 4000000 in
set_option maxRecDepth 100000 in
/-- Ahead of others, without room. -/
theorem insert_grow (W : World) (base n k g cap : Nat) (cur : Array Value) (inner vs : List Value) (hbase : base ≤ W.heap.size) (hlen : inner.length = n * 4) (hh : W.heap[g]? = some (.cells cur 57 (0, 0))) (hnc : n ≤ cap) (hcs : cur.size = cap * 4) (hct : cur.toList.take (n * 4) = inner)
    (hk : k < n) (hroom : cap < n + 1) (hvs : vs.length = 4) (h1 : ∀ u ∈ vs, u.oneCell' = true) (h1i : ∀ u ∈ inner, u.oneCell' = true) (hbig : (n + 1) * 48 ≤ 140737488355328) :
    Calls Try.prog 62 #[.slice (some ⟨g, 0, none⟩) n cap, .int .i64 k, .slice (some ⟨W.heap.size, 0, none⟩) 1 1] (W.alloc (.cells vs.toArray 57)) (Post W base n k (.slice (some ⟨g, 0, none⟩) n cap) inner vs) := by
  have hgl : g < W.heap.size := blk_lt hh
  have hgn : g ≠ W.heap.size := by omega
  obtain ⟨W0, hW0⟩ : ∃ W0, W0 = W.alloc (.cells vs.toArray 57) := ⟨_, rfl⟩
  have hb0 : W0.heap[W.heap.size]? = some (.cells vs.toArray 57 (0, 0)) := by rw [hW0]; exact heap_alloc_new W _
  have hgh : W0.heap[g]? = some (.cells cur 57 (0, 0)) := by rw [hW0]; exact blk_alloc hh _
  have hsz0 : W0.heap.size = W.heap.size + 1 := by rw [hW0]; simp
  have hgb0 : W.grownBy W0 (some g) := by rw [hW0]; exact World.grownBy_alloc W _ _
  rw [← hW0]
  clear hW0
  obtain ⟨i0, hi0, hz0, hzs, hzb⟩ := info_parts infoE
  have hkk : (n : Int) + 1 - (k : Int) = ((n + 1 - k : Nat) : Int) := by omega
  have hik : k + (n + 1 - k) = n + 1 := by omega
  have hcellT : ∀ j v, (inner.take (k * 4))[j]? = some v → W0.drew.cell? (Addr.add ⟨g, 0, none⟩ j) = some v := fun j v hj => by
    rw [List.getElem?_take] at hj
    split at hj
    · rename_i hlt
      rw [← hct, List.getElem?_take, if_pos (by omega)] at hj
      have : W0.drew.heap[g]? = some (.cells cur 57 (0, 0)) := hgh
      rw [add_plain]
      simp only [World.cell?, this]
      simpa using hj
    · cases hj
  have hold : (Builtin.firstCells i0.size k (.slice (some ⟨g, 0, none⟩) k cap)).run Try.prog W0.drew = .ok (inner.take (k * 4)).toArray W0.drew := by
    rw [hzs]
    exact run_firstCells_some W0.drew 4 k ⟨g, 0, none⟩ k cap (inner.take (k * 4)) (by rw [List.length_take]; omega) hcellT
  have hrz : ∀ ty, (Builtin.append_ #[34, 3] ty #[.slice (some ⟨g, 0, none⟩) k cap, .int .i64 ((n : Int) + 1 - (k : Int))]).run Try.prog W0 =
      .ok (.slice (some ⟨W0.heap.size, 0, none⟩) (n + 1) (grownCap W0 (n + 1) cap 57)) (W0.drew.alloc (.cells ((inner.take (k * 4)).toArray ++ Builtin.zeroCells ((.agg #[.string ⟨#[]⟩, .string ⟨#[]⟩, .bool false, .int .i64 0]) : Value).cells (n + 1 - k) ++ Builtin.zeroCells ((.agg #[.string ⟨#[]⟩, .string ⟨#[]⟩, .bool false, .int .i64 0]) : Value).cells (grownCap W0 (n + 1) cap 57 - (n + 1))) 57)) := fun ty => by
    have h := Lib.run_append_grow_zeros W0 34 3 ty 57 i0 _ .i64 .i64 Try.underlying34 Try.underlying3 hi0 hz0 (some ⟨g, 0, none⟩) k cap (inner.take (k * 4)) hold (n + 1 - k) (by omega) (by omega) (by omega) (by omega) (by rw [hzb]; omega) (by rw [hzb, hik]; exact growslice_fits hroom hbig)
    rw [hik] at h
    rw [hkk]
    exact h
  obtain ⟨G, hG⟩ : ∃ G, G = grownCap W0 (n + 1) cap 57 := ⟨_, rfl⟩
  have hGn : n + 1 ≤ G := by rw [hG]; exact grownCap_ge W0 _ _ _
  have hGm : G ≤ maxLen := by rw [hG]; exact grownCap_le_maxLen W0 (n + 1) cap 57 (by unfold maxLen; omega)
  have hG63 : G ≤ 9223372036854775807 := hGm
  obtain ⟨ROW, hROW⟩ : ∃ ROW : Array Value, ROW = (inner.take (k * 4)).toArray ++ Builtin.zeroCells ((.agg #[.string ⟨#[]⟩, .string ⟨#[]⟩, .bool false, .int .i64 0]) : Value).cells (n + 1 - k) ++ Builtin.zeroCells ((.agg #[.string ⟨#[]⟩, .string ⟨#[]⟩, .bool false, .int .i64 0]) : Value).cells (G - (n + 1)) := ⟨_, rfl⟩
  rw [← hG, ← hROW] at hrz
  have hzc : ((.agg #[.string ⟨#[]⟩, .string ⟨#[]⟩, .bool false, .int .i64 0]) : Value).cells.size = 4 := rfl
  have hRl : ROW.size = G * 4 := by
    rw [hROW]
    simp only [Array.size_append, size_zeroCells, hzc, List.size_toArray, List.length_take]
    omega
  have hRt : ROW.toList.take (k * 4) = inner.take (k * 4) := by
    rw [hROW]
    simp only [Array.toList_append, List.append_assoc]
    rw [List.take_append_of_le_length (by rw [List.length_take]; omega), List.take_take, Nat.min_self]
  obtain ⟨N, hN⟩ : ∃ N, N = W0.heap.size := ⟨_, rfl⟩
  obtain ⟨W1, hW1⟩ : ∃ W1, W1 = W0.drew.alloc (.cells ROW 57) := ⟨_, rfl⟩
  have hN1 : W1.heap[N]? = some (.cells ROW 57 (0, 0)) := by rw [hW1, hN]; exact heap_alloc_new W0.drew _
  have hg1 : W1.heap[g]? = some (.cells cur 57 (0, 0)) := by rw [hW1]; exact blk_alloc (w := W0.drew) hgh _
  have hv1 : W1.heap[W.heap.size]? = some (.cells vs.toArray 57 (0, 0)) := by rw [hW1]; exact blk_alloc (w := W0.drew) hb0 _
  have hgb1 : W.grownBy W1 (some g) := by rw [hW1]; exact (grown_drew hgb0).trans (World.grownBy_alloc W0.drew _ _)
  rw [← hW1, ← hN] at hrz
  have hNW : W.heap.size + 1 = N := by omega
  clear hW1 hROW hG hN
  obtain ⟨r1, hr1⟩ : ∃ r1, r1 = (ROW.toList.take (k * 4) ++ vs ++ ROW.toList.drop (k * 4 + vs.length)).toArray := ⟨_, rfl⟩
  have hRLl : ROW.toList.length = G * 4 := by rw [Array.length_toList, hRl]
  have hr1l : r1.size = G * 4 := by
    rw [hr1]
    simp only [List.size_toArray, List.length_append, List.length_take, List.length_drop, hRLl, hvs]
    omega
  have hdl : (inner.drop (k * 4)).length = (n - k) * 4 := by rw [List.length_drop, hlen]; omega
  have hcpA : ∀ X : World, X.heap = W1.heap → ∀ ty dc vc, (Builtin.copy_ #[34, 34] ty #[.slice (some ⟨N, k * 4, none⟩) (n + 1 - k) dc, .slice (some ⟨W.heap.size, 0, none⟩) 1 vc]).run Try.prog X = .ok (goInt ((Nat.min 1 (n + 1 - k) : Nat) : Int)) (X.setRow N r1) := fun X hX ty dc vc => by
    rw [hr1]
    exact run_copy_rowK X 34 34 ty 57 4 N (k * 4) (n + 1 - k) dc ⟨W.heap.size, 0, none⟩ 1 vc ROW 57 vs Try.underlying34 infoS (by rw [hX]; exact hN1) (by rw [hvs, show Nat.min 1 (n + 1 - k) = 1 by simp only [Nat.min_def]; split <;> omega]) (fun j v hj => by
      have hX2 : X.heap[W.heap.size]? = some (.cells vs.toArray 57 (0, 0)) := by rw [hX]; exact hv1
      rw [add_plain]
      simp only [World.cell?, hX2]
      simpa using hj) (by rw [hvs, hRl]; omega) h1
  obtain ⟨r2, hr2⟩ : ∃ r2, r2 = (r1.toList.take ((k + 1) * 4) ++ inner.drop (k * 4) ++ r1.toList.drop ((k + 1) * 4 + (inner.drop (k * 4)).length)).toArray := ⟨_, rfl⟩
  have hcpB : ∀ X : World, X.heap = (W1.setRow N r1).heap → ∀ ty dc sc, (Builtin.copy_ #[34, 34] ty #[.slice (some ⟨N, (k + 1) * 4, none⟩) (n - k) dc, .slice (some ⟨g, k * 4, none⟩) (n - k) sc]).run Try.prog X = .ok (goInt ((Nat.min (n - k) (n - k) : Nat) : Int)) (X.setRow N r2) := fun X hX ty dc sc => by
    rw [hr2]
    have hXN : X.heap[N]? = some (.cells r1 57 (0, 0)) := by rw [hX]; exact setRow_heap W1 N ROW r1 57 (0, 0) hN1
    have hXg : X.heap[g]? = some (.cells cur 57 (0, 0)) := by rw [hX, setRow_other _ _ _ _ (by omega)]; exact hg1
    exact run_copy_rowK X 34 34 ty 57 4 N ((k + 1) * 4) (n - k) dc ⟨g, k * 4, none⟩ (n - k) sc r1 57 (inner.drop (k * 4)) Try.underlying34 infoS hXN (by rw [hdl, show Nat.min (n - k) (n - k) = n - k from Nat.min_self _]) (fun j v hj => by
      have hlt : k * 4 + j < n * 4 := by
        have := (List.getElem?_eq_some_iff.1 hj).1
        omega
      rw [Addr.add_lit]
      rw [List.getElem?_drop, ← hct, List.getElem?_take, if_pos hlt] at hj
      simp only [World.cell?, hXg]
      simpa using hj) (by rw [hdl, hr1l]; omega) (fun v hv => h1i v (List.mem_of_mem_drop hv))
  have hrow : r2.toList = inner.take (k * 4) ++ vs ++ inner.drop (k * 4) ++ ROW.toList.drop ((n + 1) * 4) := by
    rw [hr2, hr1]
    exact ins_grow_rows ROW.toList inner vs n k G hlen hRLl hRt hvs hk hGn
  have fin : ∀ X : World, W.grownBy X (some g) → X.heap = (W1.setRow N r1).heap → Post W base n k (.slice (some ⟨g, 0, none⟩) n cap) inner vs (.returned (.slice (some ⟨N, 0, none⟩) (n + 1) G)) (X.setRow N r2) := fun X hX hXh => by
    have hXN : X.heap[N]? = some (.cells r1 57 (0, 0)) := by rw [hXh]; exact setRow_heap W1 N ROW r1 57 (0, 0) hN1
    have hpl : (inner.take (k * 4) ++ vs ++ inner.drop (k * 4)).length = (n + 1) * 4 := by
      simp only [List.length_append, List.length_take, hdl, hvs, hlen]
      omega
    refine ⟨_, rfl, ⟨hpl, .inr ⟨N, G, r2, rfl, by omega, setRow_heap X N r1 r2 57 (0, 0) hXN, hGn, hGm, ?_, ?_⟩⟩, grown_rowN hX r2 (by omega), .inr ⟨N, rfl, by omega⟩⟩
    · rw [← Array.length_toList, hrow]
      simp only [List.length_append, List.length_take, List.length_drop, hdl, hvs, hlen, hRLl]
      omega
    · rw [hrow, List.take_append_of_le_length (Nat.le_of_eq hpl.symm), List.take_of_length_le (Nat.le_of_eq hpl)]
  have hgb2 : W.grownBy (W1.setRow N r1) (some g) := grown_rowN hgb1 r1 (by omega)
  have hz2 : ¬ ((k : Int) = (n : Int)) := by omega
  have hz3 : (cap : Int) < (n : Int) + 1 := by omega
  have hw1 : IntKind.i64.wrap ((k : Int) + 1) = (k : Int) + 1 := by rw [IntKind.wrap_i64]; omega
  have hw2 : IntKind.i64.wrap ((n : Int) + 1) = (n : Int) + 1 := by rw [IntKind.wrap_i64]; omega
  have hw3 : IntKind.i64.wrap ((n : Int) + 1 - (k : Int)) = (n : Int) + 1 - (k : Int) := by rw [IntKind.wrap_i64]; omega
  have htn : ((k : Int) + 1).toNat = k + 1 := by omega
  have hb1 : (0 : Int) ≤ (k : Int) + 1 := by omega
  have hb4 : (k : Int) + 1 ≤ (n : Int) + 1 := by omega
  have hin : k ≤ n := by omega
  have hb3 : (k : Int) ≤ (n : Int) := by omega
  have hb5 : (k : Int) ≤ (n : Int) + 1 := by omega
  have hb8 : k ≤ n + 1 := by omega
  have hGi : ¬ (G = k) := by omega
  have hGim : ¬ (G = k + 1) := by omega
  have hci : ¬ (cap = k) := by omega
  have hkc : k ≤ cap := by omega
  have hkc2 : (k : Int) ≤ (cap : Int) := by omega
  have hcpC := hcpB (W1.setRow N r1).drew rfl
  clear hcpB
  have mixed : Try.prog.follows .mixedOrders = true := rfl
  clear hkk hik hold hcellT hRl hRt hr1 hr2 hrow hRLl hr1l hi0 hz0 hzs hzb i0 hzc
  go_enter Try.func62, Try.ntmps62
  go_wp2_with (first
    | (at_builtin; refine Lib.wpList_append_run _ rfl _ _ _ _ rfl _ _ rfl rfl _ _ (hrz _) ?_)
    | (at_builtin; refine wpList_copy_runI _ rfl _ _ 34 34 rfl _ _ rfl rfl (hcpA _ rfl _ _ _) ?_))
  go_region_law_o (refine step_copy_runI rfl _ _ 34 34 rfl _ _ (by simp [Act.eval, Act.put]) (by simp [Act.eval, Act.put]) (hcpC _ _ _) ?_)
  go_wp2
  go_ret
  exact fin _ (grown_drew hgb2) rfl
theorem insert_own (W : World) (base n k : Nat) (v : Value) (inner vs : List Value) (HO : W.ownsRow base 57 4 v n inner) (hbase : base ≤ W.heap.size) (hk : k ≤ n) (hvs : vs.length = 4) (h1 : ∀ u ∈ vs, u.oneCell' = true) (h1i : ∀ u ∈ inner, u.oneCell' = true) (hl : (n + 1) * 48 ≤ 140737488355328) :
    Calls Try.prog 62 #[v, .int .i64 k, .slice (some ⟨W.heap.size, 0, none⟩) 1 1] (W.alloc (.cells vs.toArray 57)) (Post W base n k v inner vs) := by
  by_cases c : k = n
  · subst c
    exact insert_end W base k v inner vs HO hbase hvs h1 hl
  · rcases HO.2 with ⟨rfl, rfl⟩ | ⟨g, cap, cur, rfl, hg0, hh, hnc, hcm, hcs, hct⟩
    · omega
    · by_cases d : n + 1 ≤ cap
      · exact insert_room W base n k g cap cur inner vs HO.1 hg0 hh hcm hcs hct (by omega) d hvs h1 h1i
      · exact insert_grow W base n k g cap cur inner vs hbase HO.1 hh hnc hcs hct (by omega) (by omega) hvs h1 h1i hl
theorem reps_one {α : Type} {R : α → List Value → Prop} {ps : List α} {cs : List Value} (h : Reps R 4 ps cs) (h1 : ∀ p c, R p c → ∀ u ∈ c, u.oneCell' = true) : ∀ u ∈ cs, u.oneCell' = true := by
  intro u hu
  obtain ⟨i, hi, rfl⟩ := List.getElem_of_mem hu
  have hl := h.1
  have hj : i / 4 < ps.length := by omega
  have hr := h.2 (i / 4) (ps[i / 4]) (List.getElem?_eq_getElem hj)
  refine h1 _ _ hr _ ?_
  refine List.mem_of_getElem? (i := i % 4) ?_
  rw [List.getElem?_take, if_pos (Nat.mod_lt _ (by decide)), List.getElem?_drop, show i / 4 * 4 + i % 4 = i by omega, List.getElem?_eq_getElem hi]
section
variable {ops : Array Oper} {rest : List Oper} {o : Oper} {a : Act} {Q : Exit → Act → World → Prop} {α : Type}
/-- The call, as the walk meets it: behind the block of the one that is put in. -/
theorem R_insert (d : Kd α) {w0 W : World} (base : Nat) (hsz : d.sz = 4) (hgd : o.guard = none) (s i x : Operand) {ts : Array TypeId}
    (ho : o.op = .call { callee := .value (.func 62), args := #[s, i, x], argTypes := ts })
    (v : Value) (xs : List α) (p : α) (cs : List Value) (ok okp : Nat → Prop) (k : Int) (hs : a.eval s = v) (hi : a.eval i = .int .i64 k) (hx : a.eval x = .slice (some ⟨W.heap.size, 0, none⟩) 1 1) (hp : d.M W base okp p cs) (hokp : ∀ k, okp k → ok k ∧ some k ≠ v.ownBlock) (hfresh : ∀ k, W.heap.size ≤ k → ok k)
    (HO : d.R 57 W base ok v xs) (HB : Below base w0 W) (hbase : base ≤ W.heap.size) (hk : 0 ≤ k ∧ k ≤ (xs.length : Int)) (hl : (xs.length + 1) * 48 ≤ 140737488355328)
    (h : ∀ v1 w1, d.R 57 w1 base ok v1 (xs.take k.toNat ++ [p] ++ xs.drop k.toNat) → Below base w0 w1 → W.grownBy w1 v.ownBlock → (v1.ownBlock = v.ownBlock ∨ ∃ b, v1.ownBlock = some b ∧ W.heap.size ≤ b) → wpList Try.prog ops Q rest (a.put o.dst v1) w1) :
    wpList Try.prog ops Q (o :: rest) a (W.alloc (.cells cs.toArray 57)) := by
  obtain ⟨h0, inner, hown, hr⟩ := HO
  rw [hsz] at hown hr
  obtain ⟨k', rfl⟩ : ∃ k' : Nat, k = (k' : Int) := ⟨k.toNat, by omega⟩
  have hlen : cs.length = 4 := by rw [d.K_len (d.K_of_M hp), hsz]
  have hcall := insert_own W base xs.length k' v inner cs hown hbase (by omega) hlen (d.K_one (d.K_of_M hp)) (reps_one hr (fun p c hq => d.K_one (d.K_of_M hq))) hl
  refine goesL_ o.dst rfl hgd Try.func62 (by kernel_rfl) rfl #[v, .int .i64 k', .slice (some ⟨W.heap.size, 0, none⟩) 1 1] ho (by simp only [List.map_toArray, List.map_cons, List.map_nil, hs, hi, hx]) ?_
  refine hcall.mono ?_
  rintro e w1 ⟨v1, rfl, hown1, hg, hat⟩
  refine ⟨v1, rfl, h v1 w1 ?_ (HB.grown hg hbase (own_base hown)) hg hat⟩
  have hne : ∀ k, some k ≠ v.ownBlock → k < W.heap.size → some k ≠ v1.ownBlock := by
    intro k hk hlt
    rcases hat with hat | ⟨b, hb, hle⟩
    · rw [hat]; exact hk
    · rw [hb]
      intro he
      injection he with he
      omega
  have step : ∀ {q : α} {c : List Value} {o : Nat → Prop}, d.M W base o q c → (∀ k, o k → ok k ∧ some k ≠ v.ownBlock) → d.M w1 base (fun k => ok k ∧ some k ≠ v1.ownBlock) q c := by
    intro q c o hq ho
    have h1 := d.M_move (w1 := w1) (fun k hk => hg.block k hk.2.2.1 (ho k hk.1).2) (d.M_bound hq)
    exact d.M_mono (fun k hk => ⟨(ho k hk.1).1, hne k (ho k hk.1).2 hk.2.2.1⟩) h1
  have hr2 := hr.imp_ (fun _ _ hq => step hq (fun _ hk => hk))
  have hrt := Kd.reps_take hr2 (m := k') (by omega)
  have hrd := Kd.reps_drop hr2 (m := k')
  have hl2 : (xs.take k' ++ [p] ++ xs.drop k').length = xs.length + 1 := by simp only [List.length_append, List.length_take, List.length_drop, List.length_singleton]; omega
  refine ⟨fun k hk => ?_, inner.take (k' * 4) ++ cs ++ inner.drop (k' * 4), ?_, ?_⟩
  · rcases hat with hat | ⟨b, hb, hle⟩
    · exact h0 k (hat ▸ hk)
    · rw [hb] at hk
      injection hk with hk
      exact hfresh k (by omega)
  · rw [Int.toNat_natCast, hl2, hsz]; exact hown1
  · rw [Int.toNat_natCast, hsz]
    exact Kd.reps_append (hrt.snoc (step hp hokp) hlen) hrd
end
end Go.Proofs.YtjadloppdbhpiaaW.InsV
