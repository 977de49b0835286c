/- The functions that a law uses, as Lean functions, and proofs that the Go code comes to just what they say: written by a program of this session over the translation. Conditions: as each theorem states. -/
import Derived.Test.YtlmnbgblmackkaaQFnExactLogTextsx0
import Derived.Test.YtlmnbgblmackkaaQFnExactLogTextsx1
import Derived.Test.YtlmnbgblmackkaaQFnExactLogTextsx2
import Derived.Test.YtlmnbgblmackkaaQFnExactLogTextsx5
import Derived.Test.YtlmnbgblmackkaaQFnExactLogTextsx8
namespace Go.Proofs.Ytlmnbgblmackkaa.QFnExactLogTexts
open Go.RowKit Go.Proofs.YtlmnbgblmackkaaW.PrintWords Go.Proofs.YtlmnbgblmackkaaW.PrintLast Go.Proofs.YtlmnbgblmackkaaW.PrintMore
attribute [local go_sem] max2_int min2_int max_two min_two max_three min_three max_four min_four   -- for this text's walks alone
set_option linter.unusedVariables false
set_option linter.unusedSimpArgs false

/-! ### laws_heldStringS: function 47 -/
def laws_heldStringS.l0 : Nat → List ByteArray → Int → Int → Option (Int)
  | 0, _, _, _ => none
  | k + 1, x0, x1, x5 => if x5 < (x0.length : Int) then (if 0 ≤ x5 then ((laws_markText.f k x1).bind fun t269 => (if (rdOf ByteArray.empty x0 x5).toList = t269.toList then (laws_heldStringS.l0 k x0 (wrap64 (x1 + 1)) (wrap64 (x5 + 1))) else (some (-1)))) else (none)) else (some x1)
def laws_heldStringS.f (k : Nat) (l0 : List ByteArray) (a1 : Int) : Option (Int) := laws_heldStringS.l0 k l0 a1 0
theorem laws_heldStringS.mono_l : ∀ k, (∀ y0 y1 y2, LeO (laws_heldStringS.l0 k y0 y1 y2) (laws_heldStringS.l0 (k + 1) y0 y1 y2))
  | 0 => fun _ _ _ r h => by simp [laws_heldStringS.l0] at h
  | k + 1 => by
    have ih0 := laws_heldStringS.mono_l k
    · intro y0 y1 y2
      unfold laws_heldStringS.l0
      repeat' first
      | (with_reducible exact ih0 _ _ _)
      | (with_reducible exact laws_markText.mono _ _)
      | (with_reducible exact LeO.refl _)
      | (with_reducible exact LeO.none _)
      | (with_reducible refine LeO.ite ?_ ?_)
      | (with_reducible refine LeO.bind ?_ (fun _ => ?_))
      | exact ih0 _ _ _
      | exact laws_markText.mono _ _
      | exact LeO.none _
      | refine LeO.ite ?_ ?_
      | refine LeO.bind ?_ (fun _ => ?_)
theorem laws_heldStringS.mono : ∀ a0 a1 k, LeO (laws_heldStringS.f k a0 a1) (laws_heldStringS.f (k + 1) a0 a1) := by
  intro a0 a1 k
  have ih0 := laws_heldStringS.mono_l k
  unfold laws_heldStringS.f
  repeat' first
      | (with_reducible exact ih0 _ _ _)
      | (with_reducible exact laws_markText.mono _ _)
      | (with_reducible exact LeO.refl _)
      | (with_reducible exact LeO.none _)
      | (with_reducible refine LeO.ite ?_ ?_)
      | (with_reducible refine LeO.bind ?_ (fun _ => ?_))
      | exact ih0 _ _ _
      | exact laws_markText.mono _ _
      | exact LeO.none _
      | refine LeO.ite ?_ ?_
      | refine LeO.bind ?_ (fun _ => ?_)
set_option maxHeartbeats 8000000 in
set_option maxRecDepth 100000 in
theorem laws_heldStringS.calls (k : Nat) (A0 : Option Addr) (c0 : Nat) (l0 : List ByteArray) (a1 : Int) (r : Int) (w : World) (hr0 : Kd.C Kd.string w A0 l0.length l0) (hc0 : l0.length ≤ c0) (h : laws_heldStringS.f k l0 a1 = some r) :
    Calls Try.prog 47 #[.slice A0 l0.length c0, .int .i64 a1] w fun e w' => e = .returned (.int .i64 r) ∧ Below w.heap.size w w' := by
  have HR0 := Aside0.mk hr0
  have HC0 := Aside0.mk hc0
  clear hr0 hc0
  have HB := Aside0.mk (Below.refl w.heap.size w)
  have H : (laws_heldStringS.l0 k l0 a1 0) = some r := h
  clear h
  have H' := Aside0.mk H
  clear H
  go_enter Try.func47, Try.ntmps47
  go_wp2
  go_loopg [1, 5] k (fun kq v1 v5 w' => ∃ (x1_1 : Int) (x5_1 : Int), v1 = .int .i64 x1_1 ∧ v5 = .int .i64 x5_1 ∧ Aside0 (laws_heldStringS.l0 kq l0 x1_1 x5_1 = some r) ∧ Aside0 (kq ≤ k) ∧ Aside0 (Below w.heap.size w w'))
  case atStart => exact ⟨(a1), (0), (by first | rfl | (simp; done) | (simp [*]; done)), (by first | rfl | (simp; done) | (simp [*]; done)), H', ⟨Nat.le_refl _⟩, ⟨by repeat (first | (with_reducible first | exact HB.out | apply below_alloc | apply pw_below_drewN | apply below_drew1) | exact HB.out)⟩⟩
  case round =>
    clear H'
    try clear p2
    obtain ⟨x1_1, x5_1, rfl, rfl, HA, HK1, HB⟩ := hrel
    cases gk with
    | zero => exact absurd HA.out (by simp [laws_heldStringS.l0])
    | succ k1 =>
      have H := HA.out
      clear HA
      simp only [laws_heldStringS.l0] at H
      by_cases c3 : x5_1 < (l0.length : Int)
      · rw [if_pos c3] at H
        have c3b0 : decide (x5_1 < (l0.length : Int)) = true := decide_eq_true c3
        clear c3
        by_cases c4 : 0 ≤ x5_1
        · rw [if_pos c4] at H
          have c4b0 : decide (0 ≤ x5_1) = true := decide_eq_true c4
          clear c4
          replace H := Option.bind_eq_some_iff.mp H
          obtain ⟨t269, A50, H⟩ := H
          replace H : (if (rdOf ByteArray.empty l0 x5_1).toList = t269.toList then (laws_heldStringS.l0 k1 l0 (wrap64 (x1_1 + 1)) (wrap64 (x5_1 + 1))) else (some (-1))) = some r := H
          have A5 := Aside0.mk A50
          clear A50
          by_cases c6 : (rdOf ByteArray.empty l0 x5_1).toList = t269.toList
          · rw [if_pos c6] at H
            have c6b0 : ((rdOf ByteArray.empty l0 x5_1).toList == t269.toList) = true := beq_iff_eq.mpr c6
            have c6b1 : ((rdOf ByteArray.empty l0 x5_1).toList != t269.toList) = false := bne_eq_false_iff_eq.mpr c6
            clear c6
            have H' := Aside0.mk H
            clear H
            try go_wp2
            have n0_ := Aside0.mk (below_drew1 HB.out)
            clear HB
            have HB := n0_
            clear n0_
            have p268 : 0 ≤ (x5_1 : Int) := of_decide_eq_true (by first | (with_reducible assumption) | assumption)
            have q268 : x5_1 < (l0.length : Int) := of_decide_eq_true (by first | (with_reducible assumption) | assumption)
            obtain ⟨ad268, e268, hx268_0⟩ := Kd.at_string HR0.out x5_1 p268 q268
            have hw268_0 := hx268_0
            cases e268
            replace hx268_0 := (HB.out.cell (World.block_lt_of_cell? w _ hx268_0)).trans hx268_0
            replace p268 := eq_true p268
            replace q268 := eq_true q268
            refine start_ (n := 7) (S := fun w' => w'.cell? (ad268.add (x5_1).toNat) = some (.string (rdOf ByteArray.empty l0 x5_1))) (ds := []) #[false, false, false, false, false, false, false] (by kernel_rfl) rfl rfl (((HB.out.cell (World.block_lt_of_cell? w _ hw268_0)).trans hw268_0)) (fun hHeld => ?_)
            generalize wr.drew = w7 at HB hx268_0 hHeld ⊢
            refine pure_ (i := 0) (N := some 12) (v := ?_) (a' := ?_) #[true, false, false, false, false, false, false] rfl rfl (by kernel_rfl) (fun _ _ _ h => h) (Or.inl ⟨by rfl, ?_⟩) ?_ ?_
            rotate_left
            · intro w'
              go_simp
              with_reducible rfl
            rotate_left
            · simp only [Act.put, List.setIfInBounds_toArray, List.set_cons_zero, List.set_cons_succ, i64_w, i32_w]
              rfl
            refine pure_ (i := 1) (N := some 13) (v := ?_) (a' := ?_) #[true, true, false, false, false, false, false] rfl rfl (by kernel_rfl) (fun _ _ _ h => h) (Or.inl ⟨by rfl, ?_⟩) ?_ ?_
            rotate_left
            · intro w'
              go_simp
              with_reducible rfl
            rotate_left
            · simp only [Act.put, List.setIfInBounds_toArray, List.set_cons_zero, List.set_cons_succ, i64_w, i32_w]
              rfl
            refine pure_ (i := 2) (N := some 14) (v := ?_) (a' := ?_) #[true, true, true, false, false, false, false] rfl rfl (by kernel_rfl) (fun _ _ _ h => h) (Or.inl ⟨by rfl, ?_⟩) ?_ ?_
            rotate_left
            · intro w'
              go_simp
              with_reducible rfl
            rotate_left
            · simp only [Act.put, List.setIfInBounds_toArray, List.set_cons_zero, List.set_cons_succ, i64_w, i32_w]
              rfl
            refine pure_ (i := 4) (N := some 16) (v := ?_) (a' := ?_) #[true, true, true, false, true, false, false] rfl rfl (by kernel_rfl) (fun _ _ _ h => h) (Or.inl ⟨by rfl, ?_⟩) ?_ ?_
            rotate_left
            · intro w'
              go_simp
              with_reducible rfl
            rotate_left
            · simp only [Act.put, List.setIfInBounds_toArray, List.set_cons_zero, List.set_cons_succ, i64_w, i32_w]
              rfl
            refine take_ (i := 3) (N := some 15) (v := ?_) (a' := ?_) #[true, true, true, true, true, false, false] rfl rfl (by kernel_rfl) (fun _ _ _ h => h) (Or.inl ⟨by rfl, ?_⟩) hHeld ?_ ?_
            rotate_left
            · intro w' s0
              go_simp
              with_reducible rfl
            rotate_left
            · simp only [Act.put, List.setIfInBounds_toArray, List.set_cons_zero, List.set_cons_succ, i64_w, i32_w]
              rfl
            refine one_ (i := 5) (N := some 17) #[true, true, true, true, true, true, false] rfl rfl (by kernel_rfl) (by decide) (fun K hK => ?_)
            refine goes_ Try.func73 (by kernel_rfl) rfl #[.int .i64 x1_1] (by rfl) rfl rfl (by (try simp only [List.map_toArray, List.map_cons, List.map_nil]); first | done | rfl | (simp only [List.length_drop, List.length_take]; rfl)) ?_
            with_reducible refine (laws_markText.calls k1 x1_1 t269 _ A5.out).mono ?_
            rintro e w8 ⟨rfl, hb⟩
            refine ⟨_, rfl, ?_⟩
            have n0_ := Aside0.mk (below_step (by repeat (first | (with_reducible first | exact HB.out | apply below_alloc | apply pw_below_drewN | apply below_drew1) | exact HB.out)) hb)
            clear HB
            have HB := n0_
            clear n0_
            (try clear hb)
            (try clear hb2)
            (try clear hk)
            (try clear hi)
            refine hK.out _ _ (((HB.out.cell (World.block_lt_of_cell? w _ hw268_0)).trans hw268_0)) (fun hHeld => ?_)
            clear hK K
            refine norm_ (a' := ?_) ?_ ?_
            rotate_left
            · show Act.put _ (some 17) _ = _
              simp only [Act.put, List.setIfInBounds_toArray, List.set_cons_zero, List.set_cons_succ, i64_w, i32_w]
              rfl
            refine pure_ (i := 6) (N := some 18) (v := ?_) (a' := ?_) #[true, true, true, true, true, true, true] rfl rfl (by kernel_rfl) (fun _ _ _ h => h) (Or.inl ⟨by rfl, ?_⟩) ?_ ?_
            rotate_left
            · intro w'
              go_simp
              with_reducible rfl
            rotate_left
            · simp only [Act.put, List.setIfInBounds_toArray, List.set_cons_zero, List.set_cons_succ, i64_w, i32_w]
              rfl
            refine done_ (by kernel_rfl) ?_
            try go_wp2
            go_roundg k1
            case measure => have := HK1.out; omega
            case rel => exact ⟨(wrap64 (x1_1 + 1)), (wrap64 (x5_1 + 1)), (by first | rfl | (simp; done) | (simp [*]; done)), (by first | rfl | (simp; done) | (simp [*]; done)), H', ⟨by have := HK1.out; omega⟩, ⟨by repeat (first | (with_reducible first | exact HB.out | apply below_alloc | apply pw_below_drewN | apply below_drew1) | exact HB.out)⟩⟩
          · rw [if_neg c6] at H
            have c6b0 : ((rdOf ByteArray.empty l0 x5_1).toList == t269.toList) = false := beq_eq_false_iff_ne.mpr c6
            have c6b1 : ((rdOf ByteArray.empty l0 x5_1).toList != t269.toList) = true := bne_iff_ne.mpr c6
            obtain rfl := Option.some.inj H
            try go_wp2
            have n0_ := Aside0.mk (below_drew1 HB.out)
            clear HB
            have HB := n0_
            clear n0_
            have p268 : 0 ≤ (x5_1 : Int) := of_decide_eq_true (by first | (with_reducible assumption) | assumption)
            have q268 : x5_1 < (l0.length : Int) := of_decide_eq_true (by first | (with_reducible assumption) | assumption)
            obtain ⟨ad268, e268, hx268_0⟩ := Kd.at_string HR0.out x5_1 p268 q268
            have hw268_0 := hx268_0
            cases e268
            replace hx268_0 := (HB.out.cell (World.block_lt_of_cell? w _ hx268_0)).trans hx268_0
            replace p268 := eq_true p268
            replace q268 := eq_true q268
            refine start_ (n := 7) (S := fun w' => w'.cell? (ad268.add (x5_1).toNat) = some (.string (rdOf ByteArray.empty l0 x5_1))) (ds := []) #[false, false, false, false, false, false, false] (by kernel_rfl) rfl rfl (((HB.out.cell (World.block_lt_of_cell? w _ hw268_0)).trans hw268_0)) (fun hHeld => ?_)
            generalize wr.drew = w9 at HB hx268_0 hHeld ⊢
            refine pure_ (i := 0) (N := some 12) (v := ?_) (a' := ?_) #[true, false, false, false, false, false, false] rfl rfl (by kernel_rfl) (fun _ _ _ h => h) (Or.inl ⟨by rfl, ?_⟩) ?_ ?_
            rotate_left
            · intro w'
              go_simp
              with_reducible rfl
            rotate_left
            · simp only [Act.put, List.setIfInBounds_toArray, List.set_cons_zero, List.set_cons_succ, i64_w, i32_w]
              rfl
            refine pure_ (i := 1) (N := some 13) (v := ?_) (a' := ?_) #[true, true, false, false, false, false, false] rfl rfl (by kernel_rfl) (fun _ _ _ h => h) (Or.inl ⟨by rfl, ?_⟩) ?_ ?_
            rotate_left
            · intro w'
              go_simp
              with_reducible rfl
            rotate_left
            · simp only [Act.put, List.setIfInBounds_toArray, List.set_cons_zero, List.set_cons_succ, i64_w, i32_w]
              rfl
            refine pure_ (i := 2) (N := some 14) (v := ?_) (a' := ?_) #[true, true, true, false, false, false, false] rfl rfl (by kernel_rfl) (fun _ _ _ h => h) (Or.inl ⟨by rfl, ?_⟩) ?_ ?_
            rotate_left
            · intro w'
              go_simp
              with_reducible rfl
            rotate_left
            · simp only [Act.put, List.setIfInBounds_toArray, List.set_cons_zero, List.set_cons_succ, i64_w, i32_w]
              rfl
            refine pure_ (i := 4) (N := some 16) (v := ?_) (a' := ?_) #[true, true, true, false, true, false, false] rfl rfl (by kernel_rfl) (fun _ _ _ h => h) (Or.inl ⟨by rfl, ?_⟩) ?_ ?_
            rotate_left
            · intro w'
              go_simp
              with_reducible rfl
            rotate_left
            · simp only [Act.put, List.setIfInBounds_toArray, List.set_cons_zero, List.set_cons_succ, i64_w, i32_w]
              rfl
            refine take_ (i := 3) (N := some 15) (v := ?_) (a' := ?_) #[true, true, true, true, true, false, false] rfl rfl (by kernel_rfl) (fun _ _ _ h => h) (Or.inl ⟨by rfl, ?_⟩) hHeld ?_ ?_
            rotate_left
            · intro w' s0
              go_simp
              with_reducible rfl
            rotate_left
            · simp only [Act.put, List.setIfInBounds_toArray, List.set_cons_zero, List.set_cons_succ, i64_w, i32_w]
              rfl
            refine one_ (i := 5) (N := some 17) #[true, true, true, true, true, true, false] rfl rfl (by kernel_rfl) (by decide) (fun K hK => ?_)
            refine goes_ Try.func73 (by kernel_rfl) rfl #[.int .i64 x1_1] (by rfl) rfl rfl (by (try simp only [List.map_toArray, List.map_cons, List.map_nil]); first | done | rfl | (simp only [List.length_drop, List.length_take]; rfl)) ?_
            with_reducible refine (laws_markText.calls k1 x1_1 t269 _ A5.out).mono ?_
            rintro e w10 ⟨rfl, hb⟩
            refine ⟨_, rfl, ?_⟩
            have n0_ := Aside0.mk (below_step (by repeat (first | (with_reducible first | exact HB.out | apply below_alloc | apply pw_below_drewN | apply below_drew1) | exact HB.out)) hb)
            clear HB
            have HB := n0_
            clear n0_
            (try clear hb)
            (try clear hb2)
            (try clear hk)
            (try clear hi)
            refine hK.out _ _ (((HB.out.cell (World.block_lt_of_cell? w _ hw268_0)).trans hw268_0)) (fun hHeld => ?_)
            clear hK K
            refine norm_ (a' := ?_) ?_ ?_
            rotate_left
            · show Act.put _ (some 17) _ = _
              simp only [Act.put, List.setIfInBounds_toArray, List.set_cons_zero, List.set_cons_succ, i64_w, i32_w]
              rfl
            refine pure_ (i := 6) (N := some 18) (v := ?_) (a' := ?_) #[true, true, true, true, true, true, true] rfl rfl (by kernel_rfl) (fun _ _ _ h => h) (Or.inl ⟨by rfl, ?_⟩) ?_ ?_
            rotate_left
            · intro w'
              go_simp
              with_reducible rfl
            rotate_left
            · simp only [Act.put, List.setIfInBounds_toArray, List.set_cons_zero, List.set_cons_succ, i64_w, i32_w]
              rfl
            refine done_ (by kernel_rfl) ?_
            try go_wp2
            go_ret
            exact ⟨by first | rfl | (simp [errW_none, errW_some] <;> rfl) | (simp [*, errW_none, errW_some] <;> rfl), by repeat (first | (with_reducible first | exact HB.out | apply below_alloc | apply pw_below_drewN | apply below_drew1) | exact HB.out)⟩
        · rw [if_neg c4] at H
          exact absurd H (by simp)
      · rw [if_neg c3] at H
        have c3b0 : decide (x5_1 < (l0.length : Int)) = false := decide_eq_false c3
        clear c3
        obtain rfl := Option.some.inj H
        go_wp2
        go_ret
        exact ⟨by first | rfl | (simp [errW_none, errW_some] <;> rfl) | (simp [*, errW_none, errW_some] <;> rfl), by repeat (first | (with_reducible first | exact HB.out | apply below_alloc | apply pw_below_drewN | apply below_drew1) | exact HB.out)⟩

/-! ### laws_FnExactLogTexts: function 8 -/
def laws_FnExactLogTexts.j0 : Nat → List ByteArray → List ByteArray → Bool → List ByteArray → List (S95) → Option (Bool)
  | 0, _, _, _, _, _ => none
  | k + 1, x4, x6, x42, x271000, x271001 => if x42 = true then (some false) else ((laws_markStringS.f k x6 1).bind fun bt303 => ((laws_heldStringS.f k bt303.2 1).bind fun t305 => (if t305 < 0 then (some false) else (if t305 = bt303.1 then ((laws_toDisk.f k x271000 x271001).bind fun bt306 => ((impl_LogTexts.f k bt306.1 bt306.2).bind fun t312 => ((laws_eqStringS.f k t312 x4).bind fun t315 => (if t315 = true then ((laws_heldStringS.f k bt303.2 1).bind fun t316 => (if t316 < 0 then (some false) else (if t316 = bt303.1 then (some true) else (some false)))) else (some false))))) else (some false)))))
def laws_FnExactLogTexts.f (k : Nat) (l0_0 : List ByteArray) (l0_1 : List (S95)) : Option (Bool) := (laws_szDisk.f k l0_0 l0_1 1048576).bind fun t271 => (if t271 < 0 then (some true) else ((laws_toDisk.f k l0_0 l0_1).bind fun bt272 => ((spec_LogTexts.f k bt272.1 bt272.2).bind fun t278 => ((laws_toDisk.f k l0_0 l0_1).bind fun bt281 => ((impl_LogTexts.f k bt281.1 bt281.2).bind fun t288 => ((laws_eqStringS.f k t288 t278).bind fun t291 => (if t291 = true then ((laws_toDisk.f k l0_0 l0_1).bind fun bt292 => ((laws_eqDisk.f k bt281.1 bt281.2 bt292.1 bt292.2).bind fun t298 => (if t298 = true then ((laws_markDisk.f k bt281.1 bt281.2 1).bind fun bt299 => (if bt299.1 < 0 then (laws_FnExactLogTexts.j0 k t278 t288 true l0_0 l0_1) else ((laws_eqStringS.f k t288 t278).bind fun t302 => (laws_FnExactLogTexts.j0 k t278 t288 (!t302) l0_0 l0_1)))) else (some false)))) else (some false))))))))
theorem laws_FnExactLogTexts.mono_l : ∀ k, (∀ y0 y1 y2 y3 y4, LeO (laws_FnExactLogTexts.j0 k y0 y1 y2 y3 y4) (laws_FnExactLogTexts.j0 (k + 1) y0 y1 y2 y3 y4))
  | 0 => fun _ _ _ _ _ r h => by simp [laws_FnExactLogTexts.j0] at h
  | k + 1 => by
    have ih0 := laws_FnExactLogTexts.mono_l k
    · intro y0 y1 y2 y3 y4
      unfold laws_FnExactLogTexts.j0
      repeat' first
      | (with_reducible exact ih0 _ _ _ _ _)
      | (with_reducible exact impl_LogTexts.mono _ _ _)
      | (with_reducible exact laws_eqDisk.mono _ _ _ _ _)
      | (with_reducible exact laws_eqStringS.mono _ _ _)
      | (with_reducible exact laws_heldStringS.mono _ _ _)
      | (with_reducible exact laws_markDisk.mono _ _ _ _)
      | (with_reducible exact laws_markStringS.mono _ _ _)
      | (with_reducible exact laws_szDisk.mono _ _ _ _)
      | (with_reducible exact laws_toDisk.mono _ _ _)
      | (with_reducible exact spec_LogTexts.mono _ _ _)
      | (with_reducible exact LeO.refl _)
      | (with_reducible exact LeO.none _)
      | (with_reducible refine LeO.ite ?_ ?_)
      | (with_reducible refine LeO.bind ?_ (fun _ => ?_))
      | exact ih0 _ _ _ _ _
      | exact impl_LogTexts.mono _ _ _
      | exact laws_eqDisk.mono _ _ _ _ _
      | exact laws_eqStringS.mono _ _ _
      | exact laws_heldStringS.mono _ _ _
      | exact laws_markDisk.mono _ _ _ _
      | exact laws_markStringS.mono _ _ _
      | exact laws_szDisk.mono _ _ _ _
      | exact laws_toDisk.mono _ _ _
      | exact spec_LogTexts.mono _ _ _
      | exact LeO.none _
      | refine LeO.ite ?_ ?_
      | refine LeO.bind ?_ (fun _ => ?_)
theorem laws_FnExactLogTexts.mono : ∀ a0 a1 k, LeO (laws_FnExactLogTexts.f k a0 a1) (laws_FnExactLogTexts.f (k + 1) a0 a1) := by
  intro a0 a1 k
  have ih0 := laws_FnExactLogTexts.mono_l k
  unfold laws_FnExactLogTexts.f
  repeat' first
      | (with_reducible exact ih0 _ _ _ _ _)
      | (with_reducible exact impl_LogTexts.mono _ _ _)
      | (with_reducible exact laws_eqDisk.mono _ _ _ _ _)
      | (with_reducible exact laws_eqStringS.mono _ _ _)
      | (with_reducible exact laws_heldStringS.mono _ _ _)
      | (with_reducible exact laws_markDisk.mono _ _ _ _)
      | (with_reducible exact laws_markStringS.mono _ _ _)
      | (with_reducible exact laws_szDisk.mono _ _ _ _)
      | (with_reducible exact laws_toDisk.mono _ _ _)
      | (with_reducible exact spec_LogTexts.mono _ _ _)
      | (with_reducible exact LeO.refl _)
      | (with_reducible exact LeO.none _)
      | (with_reducible refine LeO.ite ?_ ?_)
      | (with_reducible refine LeO.bind ?_ (fun _ => ?_))
      | exact ih0 _ _ _ _ _
      | exact impl_LogTexts.mono _ _ _
      | exact laws_eqDisk.mono _ _ _ _ _
      | exact laws_eqStringS.mono _ _ _
      | exact laws_heldStringS.mono _ _ _
      | exact laws_markDisk.mono _ _ _ _
      | exact laws_markStringS.mono _ _ _
      | exact laws_szDisk.mono _ _ _ _
      | exact laws_toDisk.mono _ _ _
      | exact spec_LogTexts.mono _ _ _
      | exact LeO.none _
      | refine LeO.ite ?_ ?_
      | refine LeO.bind ?_ (fun _ => ?_)
set_option maxHeartbeats 8000000 in
set_option maxRecDepth 100000 in
theorem laws_FnExactLogTexts.calls (k : Nat) (A0_0 : Option Addr) (c0_0 : Nat) (l0_0 : List ByteArray) (A0_1 : Option Addr) (c0_1 : Nat) (l0_1 : List (S95)) (r : Bool) (w : World) (hr0_0 : Kd.C Kd.string w A0_0 l0_0.length l0_0) (hc0_0 : l0_0.length ≤ c0_0) (hr0_1 : Kd.C k95 w A0_1 l0_1.length l0_1) (hc0_1 : l0_1.length ≤ c0_1) (hrt : r = true) (h : laws_FnExactLogTexts.f k l0_0 l0_1 = some r) :
    Calls Try.prog 8 #[.agg #[.slice A0_0 l0_0.length c0_0, .slice A0_1 l0_1.length c0_1]] w fun e w' => e = .returned (.bool r) ∧ Below w.heap.size w w' := by
  have hu25 := Try.underlying25
  have hu30 := Try.underlying30
  have HR0_0 := Aside0.mk hr0_0
  have HC0_0 := Aside0.mk hc0_0
  clear hr0_0 hc0_0
  have HR0_1 := Aside0.mk hr0_1
  have HC0_1 := Aside0.mk hc0_1
  clear hr0_1 hc0_1
  have HB := Aside0.mk (Below.refl w.heap.size w)
  have H : ((laws_szDisk.f k l0_0 l0_1 1048576).bind fun t271 => (if t271 < 0 then (some true) else ((laws_toDisk.f k l0_0 l0_1).bind fun bt272 => ((spec_LogTexts.f k bt272.1 bt272.2).bind fun t278 => ((laws_toDisk.f k l0_0 l0_1).bind fun bt281 => ((impl_LogTexts.f k bt281.1 bt281.2).bind fun t288 => ((laws_eqStringS.f k t288 t278).bind fun t291 => (if t291 = true then ((laws_toDisk.f k l0_0 l0_1).bind fun bt292 => ((laws_eqDisk.f k bt281.1 bt281.2 bt292.1 bt292.2).bind fun t298 => (if t298 = true then ((laws_markDisk.f k bt281.1 bt281.2 1).bind fun bt299 => (if bt299.1 < 0 then (laws_FnExactLogTexts.j0 k t278 t288 true l0_0 l0_1) else ((laws_eqStringS.f k t288 t278).bind fun t302 => (laws_FnExactLogTexts.j0 k t278 t288 (!t302) l0_0 l0_1)))) else (some false)))) else (some false))))))))) = some r := h
  clear h
  replace H := Option.bind_eq_some_iff.mp H
  obtain ⟨t271, A20, H⟩ := H
  replace H : (if t271 < 0 then (some true) else ((laws_toDisk.f k l0_0 l0_1).bind fun bt272 => ((spec_LogTexts.f k bt272.1 bt272.2).bind fun t278 => ((laws_toDisk.f k l0_0 l0_1).bind fun bt281 => ((impl_LogTexts.f k bt281.1 bt281.2).bind fun t288 => ((laws_eqStringS.f k t288 t278).bind fun t291 => (if t291 = true then ((laws_toDisk.f k l0_0 l0_1).bind fun bt292 => ((laws_eqDisk.f k bt281.1 bt281.2 bt292.1 bt292.2).bind fun t298 => (if t298 = true then ((laws_markDisk.f k bt281.1 bt281.2 1).bind fun bt299 => (if bt299.1 < 0 then (laws_FnExactLogTexts.j0 k t278 t288 true l0_0 l0_1) else ((laws_eqStringS.f k t288 t278).bind fun t302 => (laws_FnExactLogTexts.j0 k t278 t288 (!t302) l0_0 l0_1)))) else (some false)))) else (some false)))))))) = some r := H
  have A2 := Aside0.mk A20
  clear A20
  by_cases c3 : t271 < 0
  · rw [if_pos c3] at H
    have c3b0 : decide (t271 < 0) = true := decide_eq_true c3
    clear c3
    obtain rfl := Option.some.inj H
    go_enter Try.func8, Try.ntmps8
    go_wp2_with (first | ((with_reducible refine gate_dst (N := 1) rfl ?_); refine box_event ?hg (N := 1) ?hd (cs := #[.slice A0_0 l0_0.length c0_0, .slice A0_1 l0_1.length c0_1]) (t := 25) ?hr ?_; (case hd => rfl); (case hg => rfl); (case hr => first | (go_simp; done) | (go_simp; rfl)); intro gb270 hg w4 hbox hb; have n0_ := Aside0.mk (below_step (by repeat (first | (with_reducible first | exact HB.out | apply below_alloc | apply pw_below_drewN | apply below_drew1) | exact HB.out)) hb); have n1_ := Aside0.mk (hbox); have n2_ := Aside0.mk ((by rw [hg]; exact (below_size (by repeat (first | (with_reducible first | exact HB.out | apply below_alloc | apply pw_below_drewN | apply below_drew1) | exact HB.out))) : w.heap.size ≤ gb270)); have n3_ := Aside0.mk ((by rw [hg]; exact (below_size (by repeat (first | (with_reducible first | exact HB.out | apply below_alloc | apply pw_below_drewN | apply below_drew1) | exact HB.out))) : w.heap.size ≤ gb270)); clear HB; have HB := n0_; have BK270 := n1_; have GW270 := n2_; have GE270 := n3_; clear n0_ n1_ n2_ n3_; clear hb hbox hg; have hcz5_0 : w4.cell? ⟨gb270, 0, none⟩ = some (.slice A0_0 l0_0.length c0_0) := (blk_cell BK270.out 0).trans rfl; have hcz5_1 : w4.cell? ⟨gb270, 1, none⟩ = some (.slice A0_1 l0_1.length c0_1) := (blk_cell BK270.out 1).trans rfl; have hfz5_0 := blk_frozen BK270.out 0; have hfz5_1 := blk_frozen BK270.out 1) | ((with_reducible refine gate_callee (f := 14) rfl ?_); refine goesL_ (some 13) rfl rfl Try.func14 (by kernel_rfl) rfl #[.agg #[.slice A0_0 l0_0.length c0_0, .slice A0_1 l0_1.length c0_1], .int .i64 1048576] rfl (by (try simp only [List.map_toArray, List.map_cons, List.map_nil]); first | done | rfl | (simp only [List.length_drop, List.length_take]; rfl)) ?_; (with_reducible refine (laws_szDisk.calls k _ _ l0_0 _ _ l0_1 1048576 t271 _ ?side1 ?side2 ?side3 ?side4 A2.out).mono ?_); (case side1 => repeat (first | exact (Kd.C_below HR0_0.out HB.out) | (with_reducible refine Kd.C_alloc ?_ _) | (with_reducible refine Kd.C_drewN ?_ _) | (with_reducible refine Kd.C_drew ?_))); (case side2 => exact HC0_0.out); (case side3 => repeat (first | exact (Kd.C_below HR0_1.out HB.out) | (with_reducible refine Kd.C_alloc ?_ _) | (with_reducible refine Kd.C_drewN ?_ _) | (with_reducible refine Kd.C_drew ?_))); (case side4 => exact HC0_1.out); rintro e w6 ⟨rfl, hb⟩; refine ⟨_, rfl, ?_⟩; have n0_ := Aside0.mk (blk_below (g := gb270) (o := .cells #[.slice A0_0 l0_0.length c0_0, .slice A0_1 l0_1.length c0_1] 25 (0, 0)) (by (with_reducible repeat (first | refine blk_drewN ?_ _ | refine blk_drew ?_ | refine blk_alloc ?_ _)); exact BK270.out) hb); have n1_ := Aside0.mk (below_step (by repeat (first | (with_reducible first | exact HB.out | apply below_alloc | apply pw_below_drewN | apply below_drew1 | refine below_set ?_ GE270.out) | exact HB.out)) hb); clear BK270; clear HB; have BK270 := n0_; have HB := n1_; clear n0_ n1_; (try clear hb); (try clear hb2); (try clear hk); (try clear hi)))
    go_ret
    exact ⟨by first | rfl | (simp [errW_none, errW_some] <;> rfl) | (simp [*, errW_none, errW_some] <;> rfl), by repeat (first | (with_reducible first | exact HB.out | apply below_alloc | apply pw_below_drewN | apply below_drew1 | refine below_set ?_ GE270.out) | exact HB.out)⟩
  · rw [if_neg c3] at H
    have c3b0 : decide (t271 < 0) = false := decide_eq_false c3
    clear c3
    replace H := Option.bind_eq_some_iff.mp H
    obtain ⟨⟨t272, t275⟩, A70, H⟩ := H
    replace H : ((spec_LogTexts.f k t272 t275).bind fun t278 => ((laws_toDisk.f k l0_0 l0_1).bind fun bt281 => ((impl_LogTexts.f k bt281.1 bt281.2).bind fun t288 => ((laws_eqStringS.f k t288 t278).bind fun t291 => (if t291 = true then ((laws_toDisk.f k l0_0 l0_1).bind fun bt292 => ((laws_eqDisk.f k bt281.1 bt281.2 bt292.1 bt292.2).bind fun t298 => (if t298 = true then ((laws_markDisk.f k bt281.1 bt281.2 1).bind fun bt299 => (if bt299.1 < 0 then (laws_FnExactLogTexts.j0 k t278 t288 true l0_0 l0_1) else ((laws_eqStringS.f k t288 t278).bind fun t302 => (laws_FnExactLogTexts.j0 k t278 t288 (!t302) l0_0 l0_1)))) else (some false)))) else (some false)))))) = some r := H
    have A7 := Aside0.mk A70
    clear A70
    replace H := Option.bind_eq_some_iff.mp H
    obtain ⟨t278, A80, H⟩ := H
    replace H : ((laws_toDisk.f k l0_0 l0_1).bind fun bt281 => ((impl_LogTexts.f k bt281.1 bt281.2).bind fun t288 => ((laws_eqStringS.f k t288 t278).bind fun t291 => (if t291 = true then ((laws_toDisk.f k l0_0 l0_1).bind fun bt292 => ((laws_eqDisk.f k bt281.1 bt281.2 bt292.1 bt292.2).bind fun t298 => (if t298 = true then ((laws_markDisk.f k bt281.1 bt281.2 1).bind fun bt299 => (if bt299.1 < 0 then (laws_FnExactLogTexts.j0 k t278 t288 true l0_0 l0_1) else ((laws_eqStringS.f k t288 t278).bind fun t302 => (laws_FnExactLogTexts.j0 k t278 t288 (!t302) l0_0 l0_1)))) else (some false)))) else (some false))))) = some r := H
    have A8 := Aside0.mk A80
    clear A80
    replace H := Option.bind_eq_some_iff.mp H
    obtain ⟨⟨t281, t284⟩, A90, H⟩ := H
    replace H : ((impl_LogTexts.f k t281 t284).bind fun t288 => ((laws_eqStringS.f k t288 t278).bind fun t291 => (if t291 = true then ((laws_toDisk.f k l0_0 l0_1).bind fun bt292 => ((laws_eqDisk.f k t281 t284 bt292.1 bt292.2).bind fun t298 => (if t298 = true then ((laws_markDisk.f k t281 t284 1).bind fun bt299 => (if bt299.1 < 0 then (laws_FnExactLogTexts.j0 k t278 t288 true l0_0 l0_1) else ((laws_eqStringS.f k t288 t278).bind fun t302 => (laws_FnExactLogTexts.j0 k t278 t288 (!t302) l0_0 l0_1)))) else (some false)))) else (some false)))) = some r := H
    have A9 := Aside0.mk A90
    clear A90
    replace H := Option.bind_eq_some_iff.mp H
    obtain ⟨t288, A100, H⟩ := H
    replace H : ((laws_eqStringS.f k t288 t278).bind fun t291 => (if t291 = true then ((laws_toDisk.f k l0_0 l0_1).bind fun bt292 => ((laws_eqDisk.f k t281 t284 bt292.1 bt292.2).bind fun t298 => (if t298 = true then ((laws_markDisk.f k t281 t284 1).bind fun bt299 => (if bt299.1 < 0 then (laws_FnExactLogTexts.j0 k t278 t288 true l0_0 l0_1) else ((laws_eqStringS.f k t288 t278).bind fun t302 => (laws_FnExactLogTexts.j0 k t278 t288 (!t302) l0_0 l0_1)))) else (some false)))) else (some false))) = some r := H
    have A10 := Aside0.mk A100
    clear A100
    replace H := Option.bind_eq_some_iff.mp H
    obtain ⟨t291, A110, H⟩ := H
    replace H : (if t291 = true then ((laws_toDisk.f k l0_0 l0_1).bind fun bt292 => ((laws_eqDisk.f k t281 t284 bt292.1 bt292.2).bind fun t298 => (if t298 = true then ((laws_markDisk.f k t281 t284 1).bind fun bt299 => (if bt299.1 < 0 then (laws_FnExactLogTexts.j0 k t278 t288 true l0_0 l0_1) else ((laws_eqStringS.f k t288 t278).bind fun t302 => (laws_FnExactLogTexts.j0 k t278 t288 (!t302) l0_0 l0_1)))) else (some false)))) else (some false)) = some r := H
    have A11 := Aside0.mk A110
    clear A110
    by_cases c12 : t291 = true
    · subst c12
      have H1 : ((laws_toDisk.f k l0_0 l0_1).bind fun bt292 => ((laws_eqDisk.f k t281 t284 bt292.1 bt292.2).bind fun t298 => (if t298 = true then ((laws_markDisk.f k t281 t284 1).bind fun bt299 => (if bt299.1 < 0 then (laws_FnExactLogTexts.j0 k t278 t288 true l0_0 l0_1) else ((laws_eqStringS.f k t288 t278).bind fun t302 => (laws_FnExactLogTexts.j0 k t278 t288 (!t302) l0_0 l0_1)))) else (some false)))) = some r := by rw [if_pos rfl] at H; exact H
      clear H
      have H := H1
      clear H1
      replace H := Option.bind_eq_some_iff.mp H
      obtain ⟨⟨t292, t295⟩, A130, H⟩ := H
      replace H : ((laws_eqDisk.f k t281 t284 t292 t295).bind fun t298 => (if t298 = true then ((laws_markDisk.f k t281 t284 1).bind fun bt299 => (if bt299.1 < 0 then (laws_FnExactLogTexts.j0 k t278 t288 true l0_0 l0_1) else ((laws_eqStringS.f k t288 t278).bind fun t302 => (laws_FnExactLogTexts.j0 k t278 t288 (!t302) l0_0 l0_1)))) else (some false))) = some r := H
      have A13 := Aside0.mk A130
      clear A130
      replace H := Option.bind_eq_some_iff.mp H
      obtain ⟨t298, A140, H⟩ := H
      replace H : (if t298 = true then ((laws_markDisk.f k t281 t284 1).bind fun bt299 => (if bt299.1 < 0 then (laws_FnExactLogTexts.j0 k t278 t288 true l0_0 l0_1) else ((laws_eqStringS.f k t288 t278).bind fun t302 => (laws_FnExactLogTexts.j0 k t278 t288 (!t302) l0_0 l0_1)))) else (some false)) = some r := H
      have A14 := Aside0.mk A140
      clear A140
      by_cases c15 : t298 = true
      · subst c15
        have H1 : ((laws_markDisk.f k t281 t284 1).bind fun bt299 => (if bt299.1 < 0 then (laws_FnExactLogTexts.j0 k t278 t288 true l0_0 l0_1) else ((laws_eqStringS.f k t288 t278).bind fun t302 => (laws_FnExactLogTexts.j0 k t278 t288 (!t302) l0_0 l0_1)))) = some r := by rw [if_pos rfl] at H; exact H
        clear H
        have H := H1
        clear H1
        replace H := Option.bind_eq_some_iff.mp H
        obtain ⟨⟨t299, t300, t301⟩, A160, H⟩ := H
        replace H : (if t299 < 0 then (laws_FnExactLogTexts.j0 k t278 t288 true l0_0 l0_1) else ((laws_eqStringS.f k t288 t278).bind fun t302 => (laws_FnExactLogTexts.j0 k t278 t288 (!t302) l0_0 l0_1))) = some r := H
        have A16 := Aside0.mk A160
        clear A160
        have HC17 := Aside0.mk H
        clear H
        go_enter Try.func8, Try.ntmps8
        try go_wp2_with (first | ((with_reducible refine gate_dst (N := 1) rfl ?_); refine box_event ?hg (N := 1) ?hd (cs := #[.slice A0_0 l0_0.length c0_0, .slice A0_1 l0_1.length c0_1]) (t := 25) ?hr ?_; (case hd => rfl); (case hg => rfl); (case hr => first | (go_simp; done) | (go_simp; rfl)); intro gb270 hg w18 hbox hb; have n0_ := Aside0.mk (below_step (by repeat (first | (with_reducible first | exact HB.out | apply below_alloc | apply pw_below_drewN | apply below_drew1) | exact HB.out)) hb); have n1_ := Aside0.mk (hbox); have n2_ := Aside0.mk ((by rw [hg]; exact (below_size (by repeat (first | (with_reducible first | exact HB.out | apply below_alloc | apply pw_below_drewN | apply below_drew1) | exact HB.out))) : w.heap.size ≤ gb270)); have n3_ := Aside0.mk ((by rw [hg]; exact (below_size (by repeat (first | (with_reducible first | exact HB.out | apply below_alloc | apply pw_below_drewN | apply below_drew1) | exact HB.out))) : w.heap.size ≤ gb270)); clear HB; have HB := n0_; have BK270 := n1_; have GW270 := n2_; have GE270 := n3_; clear n0_ n1_ n2_ n3_; clear hb hbox hg; have hcz19_0 : w18.cell? ⟨gb270, 0, none⟩ = some (.slice A0_0 l0_0.length c0_0) := (blk_cell BK270.out 0).trans rfl; have hcz19_1 : w18.cell? ⟨gb270, 1, none⟩ = some (.slice A0_1 l0_1.length c0_1) := (blk_cell BK270.out 1).trans rfl; have hfz19_0 := blk_frozen BK270.out 0; have hfz19_1 := blk_frozen BK270.out 1) | ((with_reducible refine gate_callee (f := 14) rfl ?_); refine goesL_ (some 13) rfl rfl Try.func14 (by kernel_rfl) rfl #[.agg #[.slice A0_0 l0_0.length c0_0, .slice A0_1 l0_1.length c0_1], .int .i64 1048576] rfl (by (try simp only [List.map_toArray, List.map_cons, List.map_nil]); first | done | rfl | (simp only [List.length_drop, List.length_take]; rfl)) ?_; (with_reducible refine (laws_szDisk.calls k _ _ l0_0 _ _ l0_1 1048576 t271 _ ?side1 ?side2 ?side3 ?side4 A2.out).mono ?_); (case side1 => repeat (first | exact (Kd.C_below HR0_0.out HB.out) | (with_reducible refine Kd.C_alloc ?_ _) | (with_reducible refine Kd.C_drewN ?_ _) | (with_reducible refine Kd.C_drew ?_))); (case side2 => exact HC0_0.out); (case side3 => repeat (first | exact (Kd.C_below HR0_1.out HB.out) | (with_reducible refine Kd.C_alloc ?_ _) | (with_reducible refine Kd.C_drewN ?_ _) | (with_reducible refine Kd.C_drew ?_))); (case side4 => exact HC0_1.out); rintro e w20 ⟨rfl, hb⟩; refine ⟨_, rfl, ?_⟩; have n0_ := Aside0.mk (blk_below (g := gb270) (o := .cells #[.slice A0_0 l0_0.length c0_0, .slice A0_1 l0_1.length c0_1] 25 (0, 0)) (by (with_reducible repeat (first | refine blk_drewN ?_ _ | refine blk_drew ?_ | refine blk_alloc ?_ _)); exact BK270.out) hb); have n1_ := Aside0.mk (below_step (by repeat (first | (with_reducible first | exact HB.out | apply below_alloc | apply pw_below_drewN | apply below_drew1 | refine below_set ?_ GE270.out) | exact HB.out)) hb); clear BK270; clear HB; have BK270 := n0_; have HB := n1_; clear n0_ n1_; (try clear hb); (try clear hb2); (try clear hk); (try clear hi); have hcz21_0 : w20.cell? ⟨gb270, 0, none⟩ = some (.slice A0_0 l0_0.length c0_0) := (blk_cell BK270.out 0).trans rfl; have hcz21_1 : w20.cell? ⟨gb270, 1, none⟩ = some (.slice A0_1 l0_1.length c0_1) := (blk_cell BK270.out 1).trans rfl; have hfz21_0 := blk_frozen BK270.out 0; have hfz21_1 := blk_frozen BK270.out 1) | ((with_reducible refine gate_callee (f := 17) rfl ?_); refine goesL_ (some 17) rfl rfl Try.func17 (by kernel_rfl) rfl #[.agg #[.slice A0_0 l0_0.length c0_0, .slice A0_1 l0_1.length c0_1]] rfl (by (try simp only [List.map_toArray, List.map_cons, List.map_nil]); first | done | rfl | (simp only [List.length_drop, List.length_take]; rfl)) ?_; (with_reducible refine (laws_toDisk.calls k _ _ l0_0 _ _ l0_1 t272 t275 _ ?side1 ?side2 ?side3 ?side4 A7.out).mono ?_); (case side1 => repeat (first | exact (Kd.C_below HR0_0.out HB.out) | (with_reducible refine Kd.C_alloc ?_ _) | (with_reducible refine Kd.C_drewN ?_ _) | (with_reducible refine Kd.C_drew ?_))); (case side2 => exact HC0_0.out); (case side3 => repeat (first | exact (Kd.C_below HR0_1.out HB.out) | (with_reducible refine Kd.C_alloc ?_ _) | (with_reducible refine Kd.C_drewN ?_ _) | (with_reducible refine Kd.C_drew ?_))); (case side4 => exact HC0_1.out); rintro e w22 ⟨v273, v276, rfl, ho0, ho1, hb⟩; refine ⟨_, rfl, ?_⟩; have n0_ := Aside0.mk (Kd.R_lower ho0 (below_size (by repeat (first | (with_reducible first | exact HB.out | apply below_alloc | apply pw_below_drewN | apply below_drew1 | refine below_set ?_ GE270.out) | exact HB.out)))); have n1_ := Aside0.mk (Kd.R_lower ho1 (below_size (by repeat (first | (with_reducible first | exact HB.out | apply below_alloc | apply pw_below_drewN | apply below_drew1 | refine below_set ?_ GE270.out) | exact HB.out)))); have n2_ := Aside0.mk (blk_below (g := gb270) (o := .cells #[.slice A0_0 l0_0.length c0_0, .slice A0_1 l0_1.length c0_1] 25 (0, 0)) (by (with_reducible repeat (first | refine blk_drewN ?_ _ | refine blk_drew ?_ | refine blk_alloc ?_ _)); exact BK270.out) hb); have n3_ := Aside0.mk (below_step (by repeat (first | (with_reducible first | exact HB.out | apply below_alloc | apply pw_below_drewN | apply below_drew1 | refine below_set ?_ GE270.out) | exact HB.out)) hb); clear BK270; clear HB; have HO274 := n0_; have HO277 := n1_; have BK270 := n2_; have HB := n3_; clear n0_ n1_ n2_ n3_; (try clear hb); (try clear hb2); (try clear hk); (try clear hi); (try clear ho0); (try clear ho1); obtain ⟨Ao23, co23, eo23⟩ := Kd.R_slice HO274.out; subst eo23; obtain ⟨Ao24, co24, eo24⟩ := Kd.R_slice HO277.out; subst eo24) | ((with_reducible refine gate_callee (f := 44) rfl ?_); refine goesL_ (some 18) rfl rfl Try.func44 (by kernel_rfl) rfl #[.agg #[.slice Ao23 t272.length co23, .slice Ao24 t275.length co24]] rfl (by (try simp only [List.map_toArray, List.map_cons, List.map_nil]); first | done | rfl | (simp only [List.length_drop, List.length_take]; rfl)) ?_; (with_reducible refine (spec_LogTexts.calls k _ _ t272 _ _ t275 t278 _ ?side1 ?side2 ?side3 ?side4 A8.out).mono ?_); (case side1 => repeat (first | exact (Kd.R_reads' HO274.out).2.2 | (with_reducible refine Kd.C_alloc ?_ _) | (with_reducible refine Kd.C_drewN ?_ _) | (with_reducible refine Kd.C_drew ?_))); (case side2 => exact (Kd.R_reads' HO274.out).2.1); (case side3 => repeat (first | exact (Kd.R_reads' HO277.out).2.2 | (with_reducible refine Kd.C_alloc ?_ _) | (with_reducible refine Kd.C_drewN ?_ _) | (with_reducible refine Kd.C_drew ?_))); (case side4 => exact (Kd.R_reads' HO277.out).2.1); rintro e w25 ⟨v279, rfl, ho0, hb⟩; refine ⟨_, rfl, ?_⟩; have n0_ := Aside0.mk (Kd.R_elder' (by (with_reducible repeat (first | apply Kd.R_alloc | apply Kd.R_drewN | apply Kd.R_drew)); exact HO274.out) (Kd.R_base ho0) hb); have n1_ := Aside0.mk (Kd.R_below (by (with_reducible repeat (first | apply Kd.R_alloc | apply Kd.R_drewN | apply Kd.R_drew)); exact HO277.out) hb); have n2_ := Aside0.mk (Kd.R_lower (Kd.R_new' ho0 (Kd.R_lt (by (with_reducible repeat (first | apply Kd.R_alloc | apply Kd.R_drewN | apply Kd.R_drew)); exact HO274.out))) (below_size (by repeat (first | (with_reducible first | exact HB.out | apply below_alloc | apply pw_below_drewN | apply below_drew1 | refine below_set ?_ GE270.out) | exact HB.out)))); have n3_ := Aside0.mk (blk_below (g := gb270) (o := .cells #[.slice A0_0 l0_0.length c0_0, .slice A0_1 l0_1.length c0_1] 25 (0, 0)) (by (with_reducible repeat (first | refine blk_drewN ?_ _ | refine blk_drew ?_ | refine blk_alloc ?_ _)); exact BK270.out) hb); have n4_ := Aside0.mk (below_step (by repeat (first | (with_reducible first | exact HB.out | apply below_alloc | apply pw_below_drewN | apply below_drew1 | refine below_set ?_ GE270.out) | exact HB.out)) hb); clear HO274; clear HO277; clear BK270; clear HB; have HO274 := n0_; have HO277 := n1_; have HO280 := n2_; have BK270 := n3_; have HB := n4_; clear n0_ n1_ n2_ n3_ n4_; (try clear hb); (try clear hb2); (try clear hk); (try clear hi); (try clear ho0); have hcz26_0 : w25.cell? ⟨gb270, 0, none⟩ = some (.slice A0_0 l0_0.length c0_0) := (blk_cell BK270.out 0).trans rfl; have hcz26_1 : w25.cell? ⟨gb270, 1, none⟩ = some (.slice A0_1 l0_1.length c0_1) := (blk_cell BK270.out 1).trans rfl; have hfz26_0 := blk_frozen BK270.out 0; have hfz26_1 := blk_frozen BK270.out 1) | ((with_reducible refine gate_callee (f := 17) rfl ?_); refine goesL_ (some 20) rfl rfl Try.func17 (by kernel_rfl) rfl #[.agg #[.slice A0_0 l0_0.length c0_0, .slice A0_1 l0_1.length c0_1]] rfl (by (try simp only [List.map_toArray, List.map_cons, List.map_nil]); first | done | rfl | (simp only [List.length_drop, List.length_take]; rfl)) ?_; (with_reducible refine (laws_toDisk.calls k _ _ l0_0 _ _ l0_1 t281 t284 _ ?side1 ?side2 ?side3 ?side4 A9.out).mono ?_); (case side1 => repeat (first | exact (Kd.C_below HR0_0.out HB.out) | (with_reducible refine Kd.C_alloc ?_ _) | (with_reducible refine Kd.C_drewN ?_ _) | (with_reducible refine Kd.C_drew ?_))); (case side2 => exact HC0_0.out); (case side3 => repeat (first | exact (Kd.C_below HR0_1.out HB.out) | (with_reducible refine Kd.C_alloc ?_ _) | (with_reducible refine Kd.C_drewN ?_ _) | (with_reducible refine Kd.C_drew ?_))); (case side4 => exact HC0_1.out); rintro e w27 ⟨v282, v285, rfl, ho0, ho1, hb⟩; refine ⟨_, rfl, ?_⟩; have n0_ := Aside0.mk (Kd.R_elder' (by (with_reducible repeat (first | apply Kd.R_alloc | apply Kd.R_drewN | apply Kd.R_drew)); exact HO274.out) (Kd.R_base ho0) hb); have n1_ := Aside0.mk (Kd.R_elder' (by (with_reducible repeat (first | apply Kd.R_alloc | apply Kd.R_drewN | apply Kd.R_drew)); exact HO277.out) (Kd.R_base ho1) hb); have n2_ := Aside0.mk (Kd.R_elder' (by (with_reducible repeat (first | apply Kd.R_alloc | apply Kd.R_drewN | apply Kd.R_drew)); exact HO280.out) (Kd.R_base ho0) hb); have n3_ := Aside0.mk (Kd.R_lower (Kd.R_new' (Kd.R_new' ho0 (Kd.R_lt (by (with_reducible repeat (first | apply Kd.R_alloc | apply Kd.R_drewN | apply Kd.R_drew)); exact HO274.out))) (Kd.R_lt (by (with_reducible repeat (first | apply Kd.R_alloc | apply Kd.R_drewN | apply Kd.R_drew)); exact HO280.out))) (below_size (by repeat (first | (with_reducible first | exact HB.out | apply below_alloc | apply pw_below_drewN | apply below_drew1 | refine below_set ?_ GE270.out) | exact HB.out)))); have n4_ := Aside0.mk (Kd.R_lower (Kd.R_new' ho1 (Kd.R_lt (by (with_reducible repeat (first | apply Kd.R_alloc | apply Kd.R_drewN | apply Kd.R_drew)); exact HO277.out))) (below_size (by repeat (first | (with_reducible first | exact HB.out | apply below_alloc | apply pw_below_drewN | apply below_drew1 | refine below_set ?_ GE270.out) | exact HB.out)))); have n5_ := Aside0.mk (blk_below (g := gb270) (o := .cells #[.slice A0_0 l0_0.length c0_0, .slice A0_1 l0_1.length c0_1] 25 (0, 0)) (by (with_reducible repeat (first | refine blk_drewN ?_ _ | refine blk_drew ?_ | refine blk_alloc ?_ _)); exact BK270.out) hb); have n6_ := Aside0.mk (below_step (by repeat (first | (with_reducible first | exact HB.out | apply below_alloc | apply pw_below_drewN | apply below_drew1 | refine below_set ?_ GE270.out) | exact HB.out)) hb); clear HO274; clear HO277; clear HO280; clear BK270; clear HB; have HO274 := n0_; have HO277 := n1_; have HO280 := n2_; have HO283 := n3_; have HO286 := n4_; have BK270 := n5_; have HB := n6_; clear n0_ n1_ n2_ n3_ n4_ n5_ n6_; (try clear hb); (try clear hb2); (try clear hk); (try clear hi); (try clear ho0); (try clear ho1)) | ((with_reducible refine gate_dst (N := 5) rfl ?_); refine box_event ?hg (N := 5) ?hd (cs := #[.slice none 0 0, .slice none 0 0]) (t := 30) ?hr ?_; (case hd => rfl); (case hg => rfl); (case hr => first | (go_simp; done) | (go_simp; rfl)); intro gb287 hg w28 hbox hb; have n0_ := Aside0.mk (Kd.R_below (by (with_reducible repeat (first | apply Kd.R_alloc | apply Kd.R_drewN | apply Kd.R_drew)); exact HO274.out) hb); have n1_ := Aside0.mk (Kd.R_below (by (with_reducible repeat (first | apply Kd.R_alloc | apply Kd.R_drewN | apply Kd.R_drew)); exact HO277.out) hb); have n2_ := Aside0.mk (Kd.R_below (by (with_reducible repeat (first | apply Kd.R_alloc | apply Kd.R_drewN | apply Kd.R_drew)); exact HO280.out) hb); have n3_ := Aside0.mk (Kd.R_below (by (with_reducible repeat (first | apply Kd.R_alloc | apply Kd.R_drewN | apply Kd.R_drew)); exact HO283.out) hb); have n4_ := Aside0.mk (Kd.R_below (by (with_reducible repeat (first | apply Kd.R_alloc | apply Kd.R_drewN | apply Kd.R_drew)); exact HO286.out) hb); have n5_ := Aside0.mk (blk_below (g := gb270) (o := .cells #[.slice A0_0 l0_0.length c0_0, .slice A0_1 l0_1.length c0_1] 25 (0, 0)) (by (with_reducible repeat (first | refine blk_drewN ?_ _ | refine blk_drew ?_ | refine blk_alloc ?_ _)); exact BK270.out) hb); have n6_ := Aside0.mk (below_step (by repeat (first | (with_reducible first | exact HB.out | apply below_alloc | apply pw_below_drewN | apply below_drew1 | refine below_set ?_ GE270.out) | exact HB.out)) hb); have n7_ := Aside0.mk (hbox); have n8_ := Aside0.mk ((by rw [hg]; exact (below_size (by repeat (first | (with_reducible first | exact HB.out | apply below_alloc | apply pw_below_drewN | apply below_drew1 | refine below_set ?_ GE270.out) | exact HB.out))) : w.heap.size ≤ gb287)); have n9_ := Aside0.mk ((by rw [hg]; exact (below_size (by repeat (first | (with_reducible first | exact HB.out | apply below_alloc | apply pw_below_drewN | apply below_drew1 | refine below_set ?_ GE270.out) | exact HB.out))) : w.heap.size ≤ gb287)); have n10_ := Aside0.mk ((by rw [hg]; exact Nat.ne_of_lt (blk_lt (g := gb270) (o := .cells #[.slice A0_0 l0_0.length c0_0, .slice A0_1 l0_1.length c0_1] 25 (0, 0)) (by (with_reducible repeat (first | refine blk_drewN ?_ _ | refine blk_drew ?_ | refine blk_alloc ?_ _)); exact BK270.out)) : gb270 ≠ gb287)); have n11_ := Aside0.mk ((by rw [hg]; exact Nat.ne_of_gt (blk_lt (g := gb270) (o := .cells #[.slice A0_0 l0_0.length c0_0, .slice A0_1 l0_1.length c0_1] 25 (0, 0)) (by (with_reducible repeat (first | refine blk_drewN ?_ _ | refine blk_drew ?_ | refine blk_alloc ?_ _)); exact BK270.out)) : gb287 ≠ gb270)); clear HO274; clear HO277; clear HO280; clear HO283; clear HO286; clear BK270; clear HB; have HO274 := n0_; have HO277 := n1_; have HO280 := n2_; have HO283 := n3_; have HO286 := n4_; have BK270 := n5_; have HB := n6_; have BK287 := n7_; have GW287 := n8_; have GE287 := n9_; have NB270_287 := n10_; have NB287_270 := n11_; clear n0_ n1_ n2_ n3_ n4_ n5_ n6_ n7_ n8_ n9_ n10_ n11_; clear hb hbox hg; obtain ⟨Ao29, co29, eo29⟩ := Kd.R_slice HO283.out; subst eo29; have hnb30 := NB287_270.out; have hnc30 := NB270_287.out; have hcz31_0 : w28.cell? ⟨gb287, 0, none⟩ = some (.slice none 0 0) := (blk_cell BK287.out 0).trans rfl; have hcz31_1 : w28.cell? ⟨gb287, 1, none⟩ = some (.slice none 0 0) := (blk_cell BK287.out 1).trans rfl; have hfz31_0 := blk_frozen BK287.out 0; have hfz31_1 := blk_frozen BK287.out 1; obtain ⟨Ao32, co32, eo32⟩ := Kd.R_slice HO286.out; subst eo32) | ((with_reducible refine gate_callee (f := 43) rfl ?_); refine goesL_ (some 22) rfl rfl Try.func43 (by kernel_rfl) rfl #[.agg #[.slice Ao29 t281.length co29, .slice Ao32 t284.length co32]] rfl (by (try simp only [List.map_toArray, List.map_cons, List.map_nil]); first | done | rfl | (simp only [List.length_drop, List.length_take]; rfl)) ?_; (with_reducible refine (impl_LogTexts.calls k _ _ t281 _ _ t284 t288 _ ?side1 ?side2 ?side3 ?side4 A10.out).mono ?_); (case side1 => refine (Kd.R_reads' (e := 9) (base := w.heap.size) (ok := fun k_ => ((True ∧ some k_ ≠ (.slice Ao23 t272.length co23 : Value).ownBlock) ∧ some k_ ≠ (v279 : Value).ownBlock)) (n := t281.length) (c := co29) ?_).2.2; exact (by (with_reducible repeat (first | apply Kd.R_alloc | apply Kd.R_drewN | apply Kd.R_drew)); exact (Kd.R_mono (Kd.R_far (p := ⟨gb287, 1, none⟩) (Kd.R_far (p := ⟨gb287, 0, none⟩) (Kd.R_types HO283.out BK287.out (by decide)) (fun _ hk => hk.2) (.slice Ao29 t281.length co29)) (fun _ hk => hk.2) (.slice Ao32 t284.length co32)) (fun _ h_ => h_.1)))); (case side2 => exact (Kd.R_reads' HO283.out).2.1); (case side3 => refine (Kd.R_reads' (e := 88) (base := w.heap.size) (ok := fun k_ => (True ∧ some k_ ≠ (.slice Ao24 t275.length co24 : Value).ownBlock)) (n := t284.length) (c := co32) ?_).2.2; exact (by (with_reducible repeat (first | apply Kd.R_alloc | apply Kd.R_drewN | apply Kd.R_drew)); exact (Kd.R_mono (Kd.R_far (p := ⟨gb287, 1, none⟩) (Kd.R_far (p := ⟨gb287, 0, none⟩) (Kd.R_types HO286.out BK287.out (by decide)) (fun _ hk => hk.2) (.slice Ao29 t281.length co29)) (fun _ hk => hk.2) (.slice Ao32 t284.length co32)) (fun _ h_ => h_.1)))); (case side4 => exact (Kd.R_reads' HO286.out).2.1); rintro e w33 ⟨v289, rfl, ho0, hb⟩; refine ⟨_, rfl, ?_⟩; have n0_ := Aside0.mk (Kd.R_elder' (by (with_reducible repeat (first | apply Kd.R_alloc | apply Kd.R_drewN | apply Kd.R_drew)); exact (Kd.R_mono (Kd.R_far (p := ⟨gb287, 1, none⟩) (Kd.R_far (p := ⟨gb287, 0, none⟩) (Kd.R_types HO274.out BK287.out (by decide)) (fun _ hk => hk.2) (.slice Ao29 t281.length co29)) (fun _ hk => hk.2) (.slice Ao32 t284.length co32)) (fun _ h_ => h_.1))) (Kd.R_base ho0) hb); have n1_ := Aside0.mk (Kd.R_below (by (with_reducible repeat (first | apply Kd.R_alloc | apply Kd.R_drewN | apply Kd.R_drew)); exact (Kd.R_mono (Kd.R_far (p := ⟨gb287, 1, none⟩) (Kd.R_far (p := ⟨gb287, 0, none⟩) (Kd.R_types HO277.out BK287.out (by decide)) (fun _ hk => hk.2) (.slice Ao29 t281.length co29)) (fun _ hk => hk.2) (.slice Ao32 t284.length co32)) (fun _ h_ => h_.1))) hb); have n2_ := Aside0.mk (Kd.R_elder' (by (with_reducible repeat (first | apply Kd.R_alloc | apply Kd.R_drewN | apply Kd.R_drew)); exact (Kd.R_mono (Kd.R_far (p := ⟨gb287, 1, none⟩) (Kd.R_far (p := ⟨gb287, 0, none⟩) (Kd.R_types HO280.out BK287.out (by decide)) (fun _ hk => hk.2) (.slice Ao29 t281.length co29)) (fun _ hk => hk.2) (.slice Ao32 t284.length co32)) (fun _ h_ => h_.1))) (Kd.R_base ho0) hb); have n3_ := Aside0.mk (Kd.R_elder' (by (with_reducible repeat (first | apply Kd.R_alloc | apply Kd.R_drewN | apply Kd.R_drew)); exact (Kd.R_mono (Kd.R_far (p := ⟨gb287, 1, none⟩) (Kd.R_far (p := ⟨gb287, 0, none⟩) (Kd.R_types HO283.out BK287.out (by decide)) (fun _ hk => hk.2) (.slice Ao29 t281.length co29)) (fun _ hk => hk.2) (.slice Ao32 t284.length co32)) (fun _ h_ => h_.1))) (Kd.R_base ho0) hb); have n4_ := Aside0.mk (Kd.R_below (by (with_reducible repeat (first | apply Kd.R_alloc | apply Kd.R_drewN | apply Kd.R_drew)); exact (Kd.R_mono (Kd.R_far (p := ⟨gb287, 1, none⟩) (Kd.R_far (p := ⟨gb287, 0, none⟩) (Kd.R_types HO286.out BK287.out (by decide)) (fun _ hk => hk.2) (.slice Ao29 t281.length co29)) (fun _ hk => hk.2) (.slice Ao32 t284.length co32)) (fun _ h_ => h_.1))) hb); have n5_ := Aside0.mk (Kd.R_lower (Kd.R_new' (Kd.R_new' (Kd.R_new' ho0 (Kd.R_lt (by (with_reducible repeat (first | apply Kd.R_alloc | apply Kd.R_drewN | apply Kd.R_drew)); exact (Kd.R_mono (Kd.R_far (p := ⟨gb287, 1, none⟩) (Kd.R_far (p := ⟨gb287, 0, none⟩) (Kd.R_types HO274.out BK287.out (by decide)) (fun _ hk => hk.2) (.slice Ao29 t281.length co29)) (fun _ hk => hk.2) (.slice Ao32 t284.length co32)) (fun _ h_ => h_.1))))) (Kd.R_lt (by (with_reducible repeat (first | apply Kd.R_alloc | apply Kd.R_drewN | apply Kd.R_drew)); exact (Kd.R_mono (Kd.R_far (p := ⟨gb287, 1, none⟩) (Kd.R_far (p := ⟨gb287, 0, none⟩) (Kd.R_types HO280.out BK287.out (by decide)) (fun _ hk => hk.2) (.slice Ao29 t281.length co29)) (fun _ hk => hk.2) (.slice Ao32 t284.length co32)) (fun _ h_ => h_.1))))) (Kd.R_lt (by (with_reducible repeat (first | apply Kd.R_alloc | apply Kd.R_drewN | apply Kd.R_drew)); exact (Kd.R_mono (Kd.R_far (p := ⟨gb287, 1, none⟩) (Kd.R_far (p := ⟨gb287, 0, none⟩) (Kd.R_types HO283.out BK287.out (by decide)) (fun _ hk => hk.2) (.slice Ao29 t281.length co29)) (fun _ hk => hk.2) (.slice Ao32 t284.length co32)) (fun _ h_ => h_.1))))) (below_size (by repeat (first | (with_reducible first | exact HB.out | apply below_alloc | apply pw_below_drewN | apply below_drew1 | refine below_set ?_ GE270.out | refine below_set ?_ GE287.out) | exact HB.out)))); have n6_ := Aside0.mk (blk_below (g := gb270) (o := .cells #[.slice A0_0 l0_0.length c0_0, .slice A0_1 l0_1.length c0_1] 25 (0, 0)) (by (with_reducible repeat (first | refine blk_drewN ?_ _ | refine blk_drew ?_ | refine blk_alloc ?_ _)); refine blk_far ?_ NB270_287.out _; (with_reducible repeat (first | refine blk_drewN ?_ _ | refine blk_drew ?_ | refine blk_alloc ?_ _)); refine blk_far ?_ NB270_287.out _; (with_reducible repeat (first | refine blk_drewN ?_ _ | refine blk_drew ?_ | refine blk_alloc ?_ _)); exact BK270.out) hb); have n7_ := Aside0.mk (blk_below (g := gb287) (o := .cells #[.slice Ao29 t281.length co29, .slice Ao32 t284.length co32] 30 (0, 0)) (by (with_reducible repeat (first | refine blk_drewN ?_ _ | refine blk_drew ?_ | refine blk_alloc ?_ _)); refine blk_put (cs := #[.slice Ao29 t281.length co29, .slice none 0 0]) ?_ 1 _ rfl; (with_reducible repeat (first | refine blk_drewN ?_ _ | refine blk_drew ?_ | refine blk_alloc ?_ _)); refine blk_put (cs := #[.slice none 0 0, .slice none 0 0]) ?_ 0 _ rfl; (with_reducible repeat (first | refine blk_drewN ?_ _ | refine blk_drew ?_ | refine blk_alloc ?_ _)); exact BK287.out) hb); have n8_ := Aside0.mk (below_step (by repeat (first | (with_reducible first | exact HB.out | apply below_alloc | apply pw_below_drewN | apply below_drew1 | refine below_set ?_ GE270.out | refine below_set ?_ GE287.out) | exact HB.out)) hb); clear HO274; clear HO277; clear HO280; clear HO283; clear HO286; clear BK270; clear BK287; clear HB; have HO274 := n0_; have HO277 := n1_; have HO280 := n2_; have HO283 := n3_; have HO286 := n4_; have HO290 := n5_; have BK270 := n6_; have BK287 := n7_; have HB := n8_; clear n0_ n1_ n2_ n3_ n4_ n5_ n6_ n7_ n8_; (try clear hb); (try clear hb2); (try clear hk); (try clear hi); (try clear ho0); obtain ⟨Ao34, co34, eo34⟩ := Kd.R_slice HO290.out; subst eo34; obtain ⟨Ao35, co35, eo35⟩ := Kd.R_slice HO280.out; subst eo35) | ((with_reducible refine gate_callee (f := 21) rfl ?_); refine goesL_ (some 25) rfl rfl Try.func21 (by kernel_rfl) rfl #[.slice Ao34 t288.length co34, .slice Ao35 t278.length co35] rfl (by (try simp only [List.map_toArray, List.map_cons, List.map_nil]); first | done | rfl | (simp only [List.length_drop, List.length_take]; rfl)) ?_; (with_reducible refine (laws_eqStringS.calls k _ _ t288 _ _ t278 true _ ?side1 ?side2 ?side3 ?side4 A11.out).mono ?_); (case side1 => repeat (first | exact (Kd.R_reads' HO290.out).2.2 | (with_reducible refine Kd.C_alloc ?_ _) | (with_reducible refine Kd.C_drewN ?_ _) | (with_reducible refine Kd.C_drew ?_))); (case side2 => exact (Kd.R_reads' HO290.out).2.1); (case side3 => repeat (first | exact (Kd.R_reads' HO280.out).2.2 | (with_reducible refine Kd.C_alloc ?_ _) | (with_reducible refine Kd.C_drewN ?_ _) | (with_reducible refine Kd.C_drew ?_))); (case side4 => exact (Kd.R_reads' HO280.out).2.1); rintro e w' ⟨rfl, ⟨nd, rfl⟩⟩; refine ⟨_, rfl, ?_⟩))
        (try (rw [drewN_self w33]; generalize hq_ : World.drewN w33 _ = w33; have n0_ : Aside0 (Kd.R Kd.string 9 w33 w.heap.size (fun k_ => some k_ ≠ (.slice Ao35 t278.length co35 : Value).ownBlock ∧ some k_ ≠ (.slice Ao29 t281.length co29 : Value).ownBlock ∧ some k_ ≠ (.slice Ao34 t288.length co34 : Value).ownBlock) (.slice Ao23 t272.length co23) t272) := ⟨by rw [← hq_]; exact (by (with_reducible repeat (first | apply Kd.R_alloc | apply Kd.R_drewN | apply Kd.R_drew)); exact Kd.R_mono HO274.out (fun _ hk => ⟨hk.1.1.2, ⟨hk.1.2, hk.2⟩⟩))⟩; have n1_ : Aside0 (Kd.R k88 88 w33 w.heap.size (fun k_ => some k_ ≠ (.slice Ao32 t284.length co32 : Value).ownBlock) (.slice Ao24 t275.length co24) t275) := ⟨by rw [← hq_]; exact (by (with_reducible repeat (first | apply Kd.R_alloc | apply Kd.R_drewN | apply Kd.R_drew)); exact Kd.R_mono HO277.out (fun _ hk => hk.2))⟩; have n2_ : Aside0 (Kd.R Kd.string 9 w33 w.heap.size (fun k_ => some k_ ≠ (.slice Ao23 t272.length co23 : Value).ownBlock ∧ some k_ ≠ (.slice Ao29 t281.length co29 : Value).ownBlock ∧ some k_ ≠ (.slice Ao34 t288.length co34 : Value).ownBlock) (.slice Ao35 t278.length co35) t278) := ⟨by rw [← hq_]; exact (by (with_reducible repeat (first | apply Kd.R_alloc | apply Kd.R_drewN | apply Kd.R_drew)); exact Kd.R_mono HO280.out (fun _ hk => ⟨hk.1.1.2, ⟨hk.1.2, hk.2⟩⟩))⟩; have n3_ : Aside0 (Kd.R Kd.string 9 w33 w.heap.size (fun k_ => some k_ ≠ (.slice Ao23 t272.length co23 : Value).ownBlock ∧ some k_ ≠ (.slice Ao35 t278.length co35 : Value).ownBlock ∧ some k_ ≠ (.slice Ao34 t288.length co34 : Value).ownBlock) (.slice Ao29 t281.length co29) t281) := ⟨by rw [← hq_]; exact (by (with_reducible repeat (first | apply Kd.R_alloc | apply Kd.R_drewN | apply Kd.R_drew)); exact Kd.R_mono HO283.out (fun _ hk => ⟨hk.1.1.2, ⟨hk.1.2, hk.2⟩⟩))⟩; have n4_ : Aside0 (Kd.R k88 88 w33 w.heap.size (fun k_ => some k_ ≠ (.slice Ao24 t275.length co24 : Value).ownBlock) (.slice Ao32 t284.length co32) t284) := ⟨by rw [← hq_]; exact (by (with_reducible repeat (first | apply Kd.R_alloc | apply Kd.R_drewN | apply Kd.R_drew)); exact Kd.R_mono HO286.out (fun _ hk => hk.2))⟩; have n5_ : Aside0 (Kd.R Kd.string 9 w33 w.heap.size (fun k_ => some k_ ≠ (.slice Ao23 t272.length co23 : Value).ownBlock ∧ some k_ ≠ (.slice Ao35 t278.length co35 : Value).ownBlock ∧ some k_ ≠ (.slice Ao29 t281.length co29 : Value).ownBlock) (.slice Ao34 t288.length co34) t288) := ⟨by rw [← hq_]; exact (by (with_reducible repeat (first | apply Kd.R_alloc | apply Kd.R_drewN | apply Kd.R_drew)); exact Kd.R_mono HO290.out (fun _ hk => ⟨hk.1.1.2, ⟨hk.1.2, hk.2⟩⟩))⟩; have n6_ : Aside0 (w33.heap[gb270]? = some (.cells #[.slice A0_0 l0_0.length c0_0, .slice A0_1 l0_1.length c0_1] 25 (0, 0))) := ⟨by rw [← hq_]; exact (by (with_reducible repeat (first | refine blk_drewN ?_ _ | refine blk_drew ?_ | refine blk_alloc ?_ _)); exact BK270.out)⟩; have n7_ : Aside0 (w33.heap[gb287]? = some (.cells #[.slice Ao29 t281.length co29, .slice Ao32 t284.length co32] 30 (0, 0))) := ⟨by rw [← hq_]; exact (by (with_reducible repeat (first | refine blk_drewN ?_ _ | refine blk_drew ?_ | refine blk_alloc ?_ _)); exact BK287.out)⟩; have n8_ : Aside0 (Below w.heap.size w w33) := ⟨by rw [← hq_]; exact (by repeat (first | (with_reducible first | exact HB.out | apply below_alloc | apply pw_below_drewN | apply below_drew1 | refine below_set ?_ GE270.out | refine below_set ?_ GE287.out) | exact HB.out))⟩; clear HO274 HO277 HO280 HO283 HO286 HO290 BK270 BK287 HB hq_; have HO274 := n0_; have HO277 := n1_; have HO280 := n2_; have HO283 := n3_; have HO286 := n4_; have HO290 := n5_; have BK270 := n6_; have BK287 := n7_; have HB := n8_; clear n0_ n1_ n2_ n3_ n4_ n5_ n6_ n7_ n8_))
        have n0_ := Aside0.mk (Kd.R_drew HO274.out)
        have n1_ := Aside0.mk (Kd.R_drew HO277.out)
        have n2_ := Aside0.mk (Kd.R_drew HO280.out)
        have n3_ := Aside0.mk (Kd.R_drew HO283.out)
        have n4_ := Aside0.mk (Kd.R_drew HO286.out)
        have n5_ := Aside0.mk (Kd.R_drew HO290.out)
        have n6_ := Aside0.mk (blk_drew BK270.out)
        have n7_ := Aside0.mk (blk_drew BK287.out)
        have n8_ := Aside0.mk (below_drew1 HB.out)
        clear HO274
        clear HO277
        clear HO280
        clear HO283
        clear HO286
        clear HO290
        clear BK270
        clear BK287
        clear HB
        have HO274 := n0_
        have HO277 := n1_
        have HO280 := n2_
        have HO283 := n3_
        have HO286 := n4_
        have HO290 := n5_
        have BK270 := n6_
        have BK287 := n7_
        have HB := n8_
        clear n0_ n1_ n2_ n3_ n4_ n5_ n6_ n7_ n8_
        refine start_ (n := 5) (S := fun w' => w'.cell? ⟨gb287, 0, none⟩ = some (.slice Ao29 t281.length co29) ∧ w'.cell? ⟨gb287, 1, none⟩ = some (.slice Ao32 t284.length co32) ∧ w'.cell? ⟨gb270, 0, none⟩ = some (.slice A0_0 l0_0.length c0_0) ∧ w'.cell? ⟨gb270, 1, none⟩ = some (.slice A0_1 l0_1.length c0_1)) (ds := []) #[false, false, false, false, false] (by kernel_rfl) rfl rfl ⟨(blk_cell BK287.out 0).trans rfl, (blk_cell BK287.out 1).trans rfl, (blk_cell BK270.out 0).trans rfl, (blk_cell BK270.out 1).trans rfl⟩ (fun hHeld => ?_)
        generalize w33.drew = w36 at HO274 HO277 HO280 HO283 HO286 HO290 BK270 BK287 HB hHeld ⊢
        refine take_ (i := 0) (N := some 27) (v := ?_) (a' := ?_) #[true, false, false, false, false] rfl rfl (by kernel_rfl) (fun _ _ _ h => h) (Or.inl ⟨by rfl, ?_⟩) hHeld ?_ ?_
        rotate_left
        · rintro w' ⟨s0, s1, s2, s3⟩
          go_simp
          with_reducible rfl
        rotate_left
        · simp only [Act.put, List.setIfInBounds_toArray, List.set_cons_zero, List.set_cons_succ, i64_w, i32_w]
          rfl
        refine take_ (i := 1) (N := some 28) (v := ?_) (a' := ?_) #[true, true, false, false, false] rfl rfl (by kernel_rfl) (fun _ _ _ h => h) (Or.inl ⟨by rfl, ?_⟩) hHeld ?_ ?_
        rotate_left
        · rintro w' ⟨s0, s1, s2, s3⟩
          go_simp
          with_reducible rfl
        rotate_left
        · simp only [Act.put, List.setIfInBounds_toArray, List.set_cons_zero, List.set_cons_succ, i64_w, i32_w]
          rfl
        refine one_ (i := 2) (N := some 29) #[true, true, true, false, false] rfl rfl (by kernel_rfl) (by decide) (fun K hK => ?_)
        refine goes_ Try.func17 (by kernel_rfl) rfl #[.agg #[.slice A0_0 l0_0.length c0_0, .slice A0_1 l0_1.length c0_1]] (by rfl) rfl rfl (by (try simp only [List.map_toArray, List.map_cons, List.map_nil]); first | done | rfl | (simp only [List.length_drop, List.length_take]; rfl)) ?_
        with_reducible refine (laws_toDisk.calls k _ _ l0_0 _ _ l0_1 t292 t295 _ ?side1 ?side2 ?side3 ?side4 A13.out).mono ?_
        (case side1 => repeat (first | exact (Kd.C_below HR0_0.out HB.out) | (with_reducible refine Kd.C_alloc ?_ _) | (with_reducible refine Kd.C_drewN ?_ _) | (with_reducible refine Kd.C_drew ?_)))
        (case side2 => exact HC0_0.out)
        (case side3 => repeat (first | exact (Kd.C_below HR0_1.out HB.out) | (with_reducible refine Kd.C_alloc ?_ _) | (with_reducible refine Kd.C_drewN ?_ _) | (with_reducible refine Kd.C_drew ?_)))
        (case side4 => exact HC0_1.out)
        rintro e w37 ⟨v293, v296, rfl, ho0, ho1, hb⟩
        refine ⟨_, rfl, ?_⟩
        have n0_ := Aside0.mk (Kd.R_elder' (by (with_reducible repeat (first | apply Kd.R_alloc | apply Kd.R_drewN | apply Kd.R_drew)); exact HO274.out) (Kd.R_base ho0) hb)
        have n1_ := Aside0.mk (Kd.R_elder' (by (with_reducible repeat (first | apply Kd.R_alloc | apply Kd.R_drewN | apply Kd.R_drew)); exact HO277.out) (Kd.R_base ho1) hb)
        have n2_ := Aside0.mk (Kd.R_elder' (by (with_reducible repeat (first | apply Kd.R_alloc | apply Kd.R_drewN | apply Kd.R_drew)); exact HO280.out) (Kd.R_base ho0) hb)
        have n3_ := Aside0.mk (Kd.R_elder' (by (with_reducible repeat (first | apply Kd.R_alloc | apply Kd.R_drewN | apply Kd.R_drew)); exact HO283.out) (Kd.R_base ho0) hb)
        have n4_ := Aside0.mk (Kd.R_elder' (by (with_reducible repeat (first | apply Kd.R_alloc | apply Kd.R_drewN | apply Kd.R_drew)); exact HO286.out) (Kd.R_base ho1) hb)
        have n5_ := Aside0.mk (Kd.R_elder' (by (with_reducible repeat (first | apply Kd.R_alloc | apply Kd.R_drewN | apply Kd.R_drew)); exact HO290.out) (Kd.R_base ho0) hb)
        have n6_ := Aside0.mk (Kd.R_lower (Kd.R_new' (Kd.R_new' (Kd.R_new' (Kd.R_new' ho0 (Kd.R_lt (by (with_reducible repeat (first | apply Kd.R_alloc | apply Kd.R_drewN | apply Kd.R_drew)); exact HO274.out))) (Kd.R_lt (by (with_reducible repeat (first | apply Kd.R_alloc | apply Kd.R_drewN | apply Kd.R_drew)); exact HO280.out))) (Kd.R_lt (by (with_reducible repeat (first | apply Kd.R_alloc | apply Kd.R_drewN | apply Kd.R_drew)); exact HO283.out))) (Kd.R_lt (by (with_reducible repeat (first | apply Kd.R_alloc | apply Kd.R_drewN | apply Kd.R_drew)); exact HO290.out))) (below_size (by repeat (first | (with_reducible first | exact HB.out | apply below_alloc | apply pw_below_drewN | apply below_drew1 | refine below_set ?_ GE270.out | refine below_set ?_ GE287.out) | exact HB.out))))
        have n7_ := Aside0.mk (Kd.R_lower (Kd.R_new' (Kd.R_new' ho1 (Kd.R_lt (by (with_reducible repeat (first | apply Kd.R_alloc | apply Kd.R_drewN | apply Kd.R_drew)); exact HO277.out))) (Kd.R_lt (by (with_reducible repeat (first | apply Kd.R_alloc | apply Kd.R_drewN | apply Kd.R_drew)); exact HO286.out))) (below_size (by repeat (first | (with_reducible first | exact HB.out | apply below_alloc | apply pw_below_drewN | apply below_drew1 | refine below_set ?_ GE270.out | refine below_set ?_ GE287.out) | exact HB.out))))
        have n8_ := Aside0.mk (blk_below (g := gb270) (o := .cells #[.slice A0_0 l0_0.length c0_0, .slice A0_1 l0_1.length c0_1] 25 (0, 0)) (by (with_reducible repeat (first | refine blk_drewN ?_ _ | refine blk_drew ?_ | refine blk_alloc ?_ _)); exact BK270.out) hb)
        have n9_ := Aside0.mk (blk_below (g := gb287) (o := .cells #[.slice Ao29 t281.length co29, .slice Ao32 t284.length co32] 30 (0, 0)) (by (with_reducible repeat (first | refine blk_drewN ?_ _ | refine blk_drew ?_ | refine blk_alloc ?_ _)); exact BK287.out) hb)
        have n10_ := Aside0.mk (below_step (by repeat (first | (with_reducible first | exact HB.out | apply below_alloc | apply pw_below_drewN | apply below_drew1 | refine below_set ?_ GE270.out | refine below_set ?_ GE287.out) | exact HB.out)) hb)
        clear HO274
        clear HO277
        clear HO280
        clear HO283
        clear HO286
        clear HO290
        clear BK270
        clear BK287
        clear HB
        have HO274 := n0_
        have HO277 := n1_
        have HO280 := n2_
        have HO283 := n3_
        have HO286 := n4_
        have HO290 := n5_
        have HO294 := n6_
        have HO297 := n7_
        have BK270 := n8_
        have BK287 := n9_
        have HB := n10_
        clear n0_ n1_ n2_ n3_ n4_ n5_ n6_ n7_ n8_ n9_ n10_
        (try clear hb)
        (try clear hb2)
        (try clear hk)
        (try clear hi)
        (try clear ho0)
        (try clear ho1)
        obtain ⟨Ao38, co38, eo38⟩ := Kd.R_slice HO294.out
        (first | subst eo38 | (injection eo38 with f1_ f2_ f3_; have f4_ := f1_.symm; have f5_ := f3_.symm; clear f1_ f2_ f3_; subst f4_; subst f5_))
        obtain ⟨Ao39, co39, eo39⟩ := Kd.R_slice HO297.out
        (first | subst eo39 | (injection eo39 with f1_ f2_ f3_; have f4_ := f1_.symm; have f5_ := f3_.symm; clear f1_ f2_ f3_; subst f4_; subst f5_))
        refine hK.out _ _ ⟨(blk_cell BK287.out 0).trans rfl, (blk_cell BK287.out 1).trans rfl, (blk_cell BK270.out 0).trans rfl, (blk_cell BK270.out 1).trans rfl⟩ (fun hHeld => ?_)
        clear hK K
        refine norm_ (a' := ?_) ?_ ?_
        rotate_left
        · show Act.put _ (some 29) _ = _
          simp only [Act.put, List.setIfInBounds_toArray, List.set_cons_zero, List.set_cons_succ, i64_w, i32_w]
          rfl
        refine one_ (i := 3) (N := some 30) #[true, true, true, true, false] rfl rfl (by kernel_rfl) (by decide) (fun K hK => ?_)
        refine goes_ Try.func20 (by kernel_rfl) rfl #[.agg #[.slice Ao29 t281.length co29, .slice Ao32 t284.length co32], .agg #[.slice Ao38 t292.length co38, .slice Ao39 t295.length co39]] (by rfl) rfl rfl (by (try simp only [List.map_toArray, List.map_cons, List.map_nil]); first | done | rfl | (simp only [List.length_drop, List.length_take]; rfl)) ?_
        with_reducible refine (laws_eqDisk.calls k _ _ t281 _ _ t284 _ _ t292 _ _ t295 true _ ?side1 ?side2 ?side3 ?side4 ?side5 ?side6 ?side7 ?side8 A14.out).mono ?_
        (case side1 => repeat (first | exact (Kd.R_reads' HO283.out).2.2 | (with_reducible refine Kd.C_alloc ?_ _) | (with_reducible refine Kd.C_drewN ?_ _) | (with_reducible refine Kd.C_drew ?_)))
        (case side2 => exact (Kd.R_reads' HO283.out).2.1)
        (case side3 => repeat (first | exact (Kd.R_reads' HO286.out).2.2 | (with_reducible refine Kd.C_alloc ?_ _) | (with_reducible refine Kd.C_drewN ?_ _) | (with_reducible refine Kd.C_drew ?_)))
        (case side4 => exact (Kd.R_reads' HO286.out).2.1)
        (case side5 => repeat (first | exact (Kd.R_reads' HO294.out).2.2 | (with_reducible refine Kd.C_alloc ?_ _) | (with_reducible refine Kd.C_drewN ?_ _) | (with_reducible refine Kd.C_drew ?_)))
        (case side6 => exact (Kd.R_reads' HO294.out).2.1)
        (case side7 => repeat (first | exact (Kd.R_reads' HO297.out).2.2 | (with_reducible refine Kd.C_alloc ?_ _) | (with_reducible refine Kd.C_drewN ?_ _) | (with_reducible refine Kd.C_drew ?_)))
        (case side8 => exact (Kd.R_reads' HO297.out).2.1)
        rintro e w40 ⟨rfl, hb⟩
        refine ⟨_, rfl, ?_⟩
        have n0_ := Aside0.mk (Kd.R_below (by (with_reducible repeat (first | apply Kd.R_alloc | apply Kd.R_drewN | apply Kd.R_drew)); exact HO274.out) hb)
        have n1_ := Aside0.mk (Kd.R_below (by (with_reducible repeat (first | apply Kd.R_alloc | apply Kd.R_drewN | apply Kd.R_drew)); exact HO277.out) hb)
        have n2_ := Aside0.mk (Kd.R_below (by (with_reducible repeat (first | apply Kd.R_alloc | apply Kd.R_drewN | apply Kd.R_drew)); exact HO280.out) hb)
        have n3_ := Aside0.mk (Kd.R_below (by (with_reducible repeat (first | apply Kd.R_alloc | apply Kd.R_drewN | apply Kd.R_drew)); exact HO283.out) hb)
        have n4_ := Aside0.mk (Kd.R_below (by (with_reducible repeat (first | apply Kd.R_alloc | apply Kd.R_drewN | apply Kd.R_drew)); exact HO286.out) hb)
        have n5_ := Aside0.mk (Kd.R_below (by (with_reducible repeat (first | apply Kd.R_alloc | apply Kd.R_drewN | apply Kd.R_drew)); exact HO290.out) hb)
        have n6_ := Aside0.mk (Kd.R_below (by (with_reducible repeat (first | apply Kd.R_alloc | apply Kd.R_drewN | apply Kd.R_drew)); exact HO294.out) hb)
        have n7_ := Aside0.mk (Kd.R_below (by (with_reducible repeat (first | apply Kd.R_alloc | apply Kd.R_drewN | apply Kd.R_drew)); exact HO297.out) hb)
        have n8_ := Aside0.mk (blk_below (g := gb270) (o := .cells #[.slice A0_0 l0_0.length c0_0, .slice A0_1 l0_1.length c0_1] 25 (0, 0)) (by (with_reducible repeat (first | refine blk_drewN ?_ _ | refine blk_drew ?_ | refine blk_alloc ?_ _)); exact BK270.out) hb)
        have n9_ := Aside0.mk (blk_below (g := gb287) (o := .cells #[.slice Ao29 t281.length co29, .slice Ao32 t284.length co32] 30 (0, 0)) (by (with_reducible repeat (first | refine blk_drewN ?_ _ | refine blk_drew ?_ | refine blk_alloc ?_ _)); exact BK287.out) hb)
        have n10_ := Aside0.mk (below_step (by repeat (first | (with_reducible first | exact HB.out | apply below_alloc | apply pw_below_drewN | apply below_drew1 | refine below_set ?_ GE270.out | refine below_set ?_ GE287.out) | exact HB.out)) hb)
        clear HO274
        clear HO277
        clear HO280
        clear HO283
        clear HO286
        clear HO290
        clear HO294
        clear HO297
        clear BK270
        clear BK287
        clear HB
        have HO274 := n0_
        have HO277 := n1_
        have HO280 := n2_
        have HO283 := n3_
        have HO286 := n4_
        have HO290 := n5_
        have HO294 := n6_
        have HO297 := n7_
        have BK270 := n8_
        have BK287 := n9_
        have HB := n10_
        clear n0_ n1_ n2_ n3_ n4_ n5_ n6_ n7_ n8_ n9_ n10_
        (try clear hb)
        (try clear hb2)
        (try clear hk)
        (try clear hi)
        refine hK.out _ _ ⟨(blk_cell BK287.out 0).trans rfl, (blk_cell BK287.out 1).trans rfl, (blk_cell BK270.out 0).trans rfl, (blk_cell BK270.out 1).trans rfl⟩ (fun hHeld => ?_)
        clear hK K
        refine norm_ (a' := ?_) ?_ ?_
        rotate_left
        · show Act.put _ (some 30) _ = _
          simp only [Act.put, List.setIfInBounds_toArray, List.set_cons_zero, List.set_cons_succ, i64_w, i32_w]
          rfl
        refine pure_ (i := 4) (N := some 31) (v := ?_) (a' := ?_) #[true, true, true, true, true] rfl rfl (by kernel_rfl) (fun _ _ _ h => h) (Or.inl ⟨by rfl, ?_⟩) ?_ ?_
        rotate_left
        · intro w'
          go_simp
          with_reducible rfl
        rotate_left
        · simp only [Act.put, List.setIfInBounds_toArray, List.set_cons_zero, List.set_cons_succ, i64_w, i32_w]
          rfl
        refine done_ (by kernel_rfl) ?_
        have hcz41_0 : w40.cell? ⟨gb287, 0, none⟩ = some (.slice Ao29 t281.length co29) := (blk_cell BK287.out 0).trans rfl
        have hcz41_1 : w40.cell? ⟨gb287, 1, none⟩ = some (.slice Ao32 t284.length co32) := (blk_cell BK287.out 1).trans rfl
        have hfz41_0 := blk_frozen BK287.out 0
        have hfz41_1 := blk_frozen BK287.out 1
        go_upto_region 14 with (first | ((with_reducible refine gate_callee (f := 22) rfl ?_); refine goesL_ (some 34) rfl rfl Try.func22 (by kernel_rfl) rfl #[.agg #[.slice Ao29 t281.length co29, .slice Ao32 t284.length co32], .int .i64 1] rfl (by (try simp only [List.map_toArray, List.map_cons, List.map_nil]); first | done | rfl | (simp only [List.length_drop, List.length_take]; rfl)) ?_; (with_reducible refine (laws_markDisk.calls k (fun k_ => some k_ = (.slice Ao29 t281.length co29 : Value).ownBlock) (.slice Ao29 t281.length co29) t281 (fun k_ => some k_ = (.slice Ao32 t284.length co32 : Value).ownBlock) (.slice Ao32 t284.length co32) t284 1 t299 t300 t301 w _ ?side1 ?side2 ?side3 A16.out).mono ?_); (case side1 => repeat (first | (with_reducible first | exact HB.out | apply below_alloc | apply pw_below_drewN | apply below_drew1 | refine below_set ?_ GE270.out | refine below_set ?_ GE287.out) | exact HB.out)); (case side2 => exact Kd.R_tight rfl HO283.out); (case side3 => exact Kd.R_tight rfl HO286.out); rintro e w42 ⟨rfl, hy0, hy1, hb, hkp⟩; refine ⟨_, rfl, ?_⟩; have n0_ := Aside0.mk (blk_kept (by (with_reducible repeat (first | refine blk_drewN ?_ _ | refine blk_drew ?_ | refine blk_alloc ?_ _)); exact BK270.out) hkp (fun hs_ => Or.elim hs_ (fun e_ => (fun e_ => (Kd.R_ne HO283.out BK270.out (by decide)) e_) e_) (fun e_ => (fun e_ => (Kd.R_ne HO286.out BK270.out (by decide)) e_) e_))); have n1_ := Aside0.mk (Kd.R_mono (ok' := fun k_ => some k_ ≠ (.slice Ao35 t278.length co35 : Value).ownBlock ∧ some k_ ≠ (.slice Ao29 t281.length co29 : Value).ownBlock ∧ some k_ ≠ (.slice Ao34 t288.length co34 : Value).ownBlock ∧ some k_ ≠ (.slice Ao38 t292.length co38 : Value).ownBlock) (Kd.R_keptB ((Kd.R_apart' HO274.out (Kd.R_typed HO286.out) (by decide))) hkp (fun k_ hk_ hs_ => by rcases hs_ with e_ | e_ <;> first | exact hk_.2 e_ | exact hk_.1.2 e_ | exact hk_.1.1.2 e_ | exact hk_.1.1.1 e_ | exact hk_.1.1.2.1 e_ | exact hk_.1.1.2.2 e_ | exact hk_.1.1.1.2 e_ | exact hk_.1.1.1.1 e_ | exact hk_.1.1.1.1.2 e_ | exact hk_.1.1.1.1.1 e_ | exact hk_.1.1.1.2.1 e_ | exact hk_.1.1.1.2.2 e_ | exact hk_.1.1 e_ | exact hk_.1.2.1 e_ | exact hk_.1.2.2 e_ | exact hk_.1.1.2.2.1 e_ | exact hk_.1.1.2.2.2 e_ | exact hk_.1.1.1.1.1.2 e_ | exact hk_.1.1.1.1.2.1 e_ | exact hk_.1.1.1.1.2.2 e_ | exact hk_.2.1 e_ | exact hk_.2.2 e_)) (fun k_ hk_ => by (repeat' apply And.intro) <;> first | exact hk_.2 | exact hk_.1.2 | exact hk_.1.1.2 | exact hk_.1.1.1 | exact hk_.1.1.2.1 | exact hk_.1.1.2.2 | exact hk_.1.1.1.2 | exact hk_.1.1.1.1 | exact hk_.1.1.1.1.2 | exact hk_.1.1.1.1.1 | exact hk_.1.1.1.2.1 | exact hk_.1.1.1.2.2 | exact hk_.1.1 | exact hk_.1.2.1 | exact hk_.1.2.2 | exact hk_.1.1.2.2.1 | exact hk_.1.1.2.2.2 | exact hk_.1.1.1.1.1.2 | exact hk_.1.1.1.1.2.1 | exact hk_.1.1.1.1.2.2 | exact hk_.2.1 | exact hk_.2.2)); have n2_ := Aside0.mk (Kd.R_mono (ok' := fun k_ => some k_ ≠ (.slice Ao32 t284.length co32 : Value).ownBlock ∧ some k_ ≠ (.slice Ao39 t295.length co39 : Value).ownBlock) (Kd.R_keptB ((Kd.R_apart' HO277.out (Kd.R_typed HO283.out) (by decide))) hkp (fun k_ hk_ hs_ => by rcases hs_ with e_ | e_ <;> first | exact hk_.2 e_ | exact hk_.1.2 e_ | exact hk_.1.1.2 e_ | exact hk_.1.1.1 e_ | exact hk_.1.1.2.1 e_ | exact hk_.1.1.2.2 e_ | exact hk_.1.1.1.2 e_ | exact hk_.1.1.1.1 e_ | exact hk_.1.1.1.1.2 e_ | exact hk_.1.1.1.1.1 e_ | exact hk_.1.1.1.2.1 e_ | exact hk_.1.1.1.2.2 e_ | exact hk_.1.1 e_ | exact hk_.1.2.1 e_ | exact hk_.1.2.2 e_ | exact hk_.1.1.2.2.1 e_ | exact hk_.1.1.2.2.2 e_ | exact hk_.1.1.1.1.1.2 e_ | exact hk_.1.1.1.1.2.1 e_ | exact hk_.1.1.1.1.2.2 e_ | exact hk_.2.1 e_ | exact hk_.2.2 e_)) (fun k_ hk_ => by (repeat' apply And.intro) <;> first | exact hk_.2 | exact hk_.1.2 | exact hk_.1.1.2 | exact hk_.1.1.1 | exact hk_.1.1.2.1 | exact hk_.1.1.2.2 | exact hk_.1.1.1.2 | exact hk_.1.1.1.1 | exact hk_.1.1.1.1.2 | exact hk_.1.1.1.1.1 | exact hk_.1.1.1.2.1 | exact hk_.1.1.1.2.2 | exact hk_.1.1 | exact hk_.1.2.1 | exact hk_.1.2.2 | exact hk_.1.1.2.2.1 | exact hk_.1.1.2.2.2 | exact hk_.1.1.1.1.1.2 | exact hk_.1.1.1.1.2.1 | exact hk_.1.1.1.1.2.2 | exact hk_.2.1 | exact hk_.2.2)); have n3_ := Aside0.mk (Kd.R_mono (ok' := fun k_ => some k_ ≠ (.slice Ao23 t272.length co23 : Value).ownBlock ∧ some k_ ≠ (.slice Ao29 t281.length co29 : Value).ownBlock ∧ some k_ ≠ (.slice Ao34 t288.length co34 : Value).ownBlock ∧ some k_ ≠ (.slice Ao38 t292.length co38 : Value).ownBlock) (Kd.R_keptB ((Kd.R_apart' HO280.out (Kd.R_typed HO286.out) (by decide))) hkp (fun k_ hk_ hs_ => by rcases hs_ with e_ | e_ <;> first | exact hk_.2 e_ | exact hk_.1.2 e_ | exact hk_.1.1.2 e_ | exact hk_.1.1.1 e_ | exact hk_.1.1.2.1 e_ | exact hk_.1.1.2.2 e_ | exact hk_.1.1.1.2 e_ | exact hk_.1.1.1.1 e_ | exact hk_.1.1.1.1.2 e_ | exact hk_.1.1.1.1.1 e_ | exact hk_.1.1.1.2.1 e_ | exact hk_.1.1.1.2.2 e_ | exact hk_.1.1 e_ | exact hk_.1.2.1 e_ | exact hk_.1.2.2 e_ | exact hk_.1.1.2.2.1 e_ | exact hk_.1.1.2.2.2 e_ | exact hk_.1.1.1.1.1.2 e_ | exact hk_.1.1.1.1.2.1 e_ | exact hk_.1.1.1.1.2.2 e_ | exact hk_.2.1 e_ | exact hk_.2.2 e_)) (fun k_ hk_ => by (repeat' apply And.intro) <;> first | exact hk_.2 | exact hk_.1.2 | exact hk_.1.1.2 | exact hk_.1.1.1 | exact hk_.1.1.2.1 | exact hk_.1.1.2.2 | exact hk_.1.1.1.2 | exact hk_.1.1.1.1 | exact hk_.1.1.1.1.2 | exact hk_.1.1.1.1.1 | exact hk_.1.1.1.2.1 | exact hk_.1.1.1.2.2 | exact hk_.1.1 | exact hk_.1.2.1 | exact hk_.1.2.2 | exact hk_.1.1.2.2.1 | exact hk_.1.1.2.2.2 | exact hk_.1.1.1.1.1.2 | exact hk_.1.1.1.1.2.1 | exact hk_.1.1.1.1.2.2 | exact hk_.2.1 | exact hk_.2.2)); have n4_ := Aside0.mk (Kd.R_reok rfl hy0 (fun k_ e_ => HO283.out.1 k_ e_)); have n5_ := Aside0.mk (Kd.R_reok rfl hy1 (fun k_ e_ => HO286.out.1 k_ e_)); have n6_ := Aside0.mk (blk_kept (by (with_reducible repeat (first | refine blk_drewN ?_ _ | refine blk_drew ?_ | refine blk_alloc ?_ _)); exact BK287.out) hkp (fun hs_ => Or.elim hs_ (fun e_ => (fun e_ => (Kd.R_ne HO283.out BK287.out (by decide)) e_) e_) (fun e_ => (fun e_ => (Kd.R_ne HO286.out BK287.out (by decide)) e_) e_))); have n7_ := Aside0.mk (Kd.R_mono (ok' := fun k_ => some k_ ≠ (.slice Ao23 t272.length co23 : Value).ownBlock ∧ some k_ ≠ (.slice Ao35 t278.length co35 : Value).ownBlock ∧ some k_ ≠ (.slice Ao29 t281.length co29 : Value).ownBlock ∧ some k_ ≠ (.slice Ao38 t292.length co38 : Value).ownBlock) (Kd.R_keptB ((Kd.R_apart' HO290.out (Kd.R_typed HO286.out) (by decide))) hkp (fun k_ hk_ hs_ => by rcases hs_ with e_ | e_ <;> first | exact hk_.2 e_ | exact hk_.1.2 e_ | exact hk_.1.1.2 e_ | exact hk_.1.1.1 e_ | exact hk_.1.1.2.1 e_ | exact hk_.1.1.2.2 e_ | exact hk_.1.1.1.2 e_ | exact hk_.1.1.1.1 e_ | exact hk_.1.1.1.1.2 e_ | exact hk_.1.1.1.1.1 e_ | exact hk_.1.1.1.2.1 e_ | exact hk_.1.1.1.2.2 e_ | exact hk_.1.1 e_ | exact hk_.1.2.1 e_ | exact hk_.1.2.2 e_ | exact hk_.1.1.2.2.1 e_ | exact hk_.1.1.2.2.2 e_ | exact hk_.1.1.1.1.1.2 e_ | exact hk_.1.1.1.1.2.1 e_ | exact hk_.1.1.1.1.2.2 e_ | exact hk_.2.1 e_ | exact hk_.2.2 e_)) (fun k_ hk_ => by (repeat' apply And.intro) <;> first | exact hk_.2 | exact hk_.1.2 | exact hk_.1.1.2 | exact hk_.1.1.1 | exact hk_.1.1.2.1 | exact hk_.1.1.2.2 | exact hk_.1.1.1.2 | exact hk_.1.1.1.1 | exact hk_.1.1.1.1.2 | exact hk_.1.1.1.1.1 | exact hk_.1.1.1.2.1 | exact hk_.1.1.1.2.2 | exact hk_.1.1 | exact hk_.1.2.1 | exact hk_.1.2.2 | exact hk_.1.1.2.2.1 | exact hk_.1.1.2.2.2 | exact hk_.1.1.1.1.1.2 | exact hk_.1.1.1.1.2.1 | exact hk_.1.1.1.1.2.2 | exact hk_.2.1 | exact hk_.2.2)); have n8_ := Aside0.mk (Kd.R_mono (ok' := fun k_ => some k_ ≠ (.slice Ao23 t272.length co23 : Value).ownBlock ∧ some k_ ≠ (.slice Ao35 t278.length co35 : Value).ownBlock ∧ some k_ ≠ (.slice Ao29 t281.length co29 : Value).ownBlock ∧ some k_ ≠ (.slice Ao34 t288.length co34 : Value).ownBlock) (Kd.R_keptB ((Kd.R_apart' HO294.out (Kd.R_typed HO286.out) (by decide))) hkp (fun k_ hk_ hs_ => by rcases hs_ with e_ | e_ <;> first | exact hk_.2 e_ | exact hk_.1.2 e_ | exact hk_.1.1.2 e_ | exact hk_.1.1.1 e_ | exact hk_.1.1.2.1 e_ | exact hk_.1.1.2.2 e_ | exact hk_.1.1.1.2 e_ | exact hk_.1.1.1.1 e_ | exact hk_.1.1.1.1.2 e_ | exact hk_.1.1.1.1.1 e_ | exact hk_.1.1.1.2.1 e_ | exact hk_.1.1.1.2.2 e_ | exact hk_.1.1 e_ | exact hk_.1.2.1 e_ | exact hk_.1.2.2 e_ | exact hk_.1.1.2.2.1 e_ | exact hk_.1.1.2.2.2 e_ | exact hk_.1.1.1.1.1.2 e_ | exact hk_.1.1.1.1.2.1 e_ | exact hk_.1.1.1.1.2.2 e_ | exact hk_.2.1 e_ | exact hk_.2.2 e_)) (fun k_ hk_ => by (repeat' apply And.intro) <;> first | exact hk_.2 | exact hk_.1.2 | exact hk_.1.1.2 | exact hk_.1.1.1 | exact hk_.1.1.2.1 | exact hk_.1.1.2.2 | exact hk_.1.1.1.2 | exact hk_.1.1.1.1 | exact hk_.1.1.1.1.2 | exact hk_.1.1.1.1.1 | exact hk_.1.1.1.2.1 | exact hk_.1.1.1.2.2 | exact hk_.1.1 | exact hk_.1.2.1 | exact hk_.1.2.2 | exact hk_.1.1.2.2.1 | exact hk_.1.1.2.2.2 | exact hk_.1.1.1.1.1.2 | exact hk_.1.1.1.1.2.1 | exact hk_.1.1.1.1.2.2 | exact hk_.2.1 | exact hk_.2.2)); have n9_ := Aside0.mk (Kd.R_mono (ok' := fun k_ => some k_ ≠ (.slice Ao24 t275.length co24 : Value).ownBlock ∧ some k_ ≠ (.slice Ao32 t284.length co32 : Value).ownBlock) (Kd.R_keptB ((Kd.R_apart' HO297.out (Kd.R_typed HO283.out) (by decide))) hkp (fun k_ hk_ hs_ => by rcases hs_ with e_ | e_ <;> first | exact hk_.2 e_ | exact hk_.1.2 e_ | exact hk_.1.1.2 e_ | exact hk_.1.1.1 e_ | exact hk_.1.1.2.1 e_ | exact hk_.1.1.2.2 e_ | exact hk_.1.1.1.2 e_ | exact hk_.1.1.1.1 e_ | exact hk_.1.1.1.1.2 e_ | exact hk_.1.1.1.1.1 e_ | exact hk_.1.1.1.2.1 e_ | exact hk_.1.1.1.2.2 e_ | exact hk_.1.1 e_ | exact hk_.1.2.1 e_ | exact hk_.1.2.2 e_ | exact hk_.1.1.2.2.1 e_ | exact hk_.1.1.2.2.2 e_ | exact hk_.1.1.1.1.1.2 e_ | exact hk_.1.1.1.1.2.1 e_ | exact hk_.1.1.1.1.2.2 e_ | exact hk_.2.1 e_ | exact hk_.2.2 e_)) (fun k_ hk_ => by (repeat' apply And.intro) <;> first | exact hk_.2 | exact hk_.1.2 | exact hk_.1.1.2 | exact hk_.1.1.1 | exact hk_.1.1.2.1 | exact hk_.1.1.2.2 | exact hk_.1.1.1.2 | exact hk_.1.1.1.1 | exact hk_.1.1.1.1.2 | exact hk_.1.1.1.1.1 | exact hk_.1.1.1.2.1 | exact hk_.1.1.1.2.2 | exact hk_.1.1 | exact hk_.1.2.1 | exact hk_.1.2.2 | exact hk_.1.1.2.2.1 | exact hk_.1.1.2.2.2 | exact hk_.1.1.1.1.1.2 | exact hk_.1.1.1.1.2.1 | exact hk_.1.1.1.1.2.2 | exact hk_.2.1 | exact hk_.2.2)); have n10_ := Aside0.mk (hb); clear BK270; clear HO274; clear HO277; clear HO280; clear HO283; clear HO286; clear BK287; clear HO290; clear HO294; clear HO297; clear HB; have BK270 := n0_; have HO274 := n1_; have HO277 := n2_; have HO280 := n3_; have HO283 := n4_; have HO286 := n5_; have BK287 := n6_; have HO290 := n7_; have HO294 := n8_; have HO297 := n9_; have HB := n10_; clear n0_ n1_ n2_ n3_ n4_ n5_ n6_ n7_ n8_ n9_ n10_; (try clear hb); (try clear hkp); (try clear hy0); (try clear hy1)))
        (try simp only [Act.put, List.setIfInBounds_toArray, List.set_cons_zero, List.set_cons_succ])
        go_cut [42] (fun v42 wc => ∃ (kq : Nat) (x42_16 : Bool), v42 = .bool x42_16 ∧ Aside0 (laws_FnExactLogTexts.j0 kq t278 t288 x42_16 l0_0 l0_1 = some r) ∧ Aside0 (kq ≤ k) ∧ Aside0 (Kd.R Kd.string 9 wc w.heap.size (fun k_ => some k_ ≠ ((.slice Ao34 t288.length co34) : Value).ownBlock ∧ some k_ ≠ ((.slice Ao29 t281.length co29) : Value).ownBlock) (.slice Ao35 t278.length co35) t278) ∧ Aside0 (Kd.R Kd.string 9 wc w.heap.size (fun k_ => some k_ ≠ ((.slice Ao35 t278.length co35) : Value).ownBlock ∧ some k_ ≠ ((.slice Ao29 t281.length co29) : Value).ownBlock) (.slice Ao34 t288.length co34) t288) ∧ Aside0 (Kd.R Kd.string 9 wc w.heap.size (fun k_ => some k_ ≠ ((.slice Ao35 t278.length co35) : Value).ownBlock ∧ some k_ ≠ ((.slice Ao34 t288.length co34) : Value).ownBlock) (.slice Ao29 t281.length co29) t300) ∧ Aside0 (Kd.R k88 88 wc w.heap.size (fun _ => True) (.slice Ao32 t284.length co32) t301) ∧ Aside0 (wc.heap[gb270]? = some (.cells #[(.slice A0_0 l0_0.length c0_0), (.slice A0_1 l0_1.length c0_1)] 25 (0, 0))) ∧ Aside0 (wc.heap[gb287]? = some (.cells #[(.slice Ao29 t281.length co29), (.slice Ao32 t284.length co32)] 30 (0, 0))) ∧ Aside0 (Below w.heap.size w wc))
        case first =>
          have H := HC17.out
          clear HC17
          by_cases c43 : t299 < 0
          · rw [if_pos c43] at H
            have c43b0 : decide (t299 < 0) = true := decide_eq_true c43
            clear c43
            (first | rw [c43b0] | (simp only [i64_w, i32_w]; rw [c43b0]) | skip)
            have H' := Aside0.mk H
            clear H
            go_wp2
            go_meet
            case rel => exact ⟨_, (true), (by first | rfl | (simp; done) | (simp [*]; done)), H', ⟨by first | omega | exact Nat.le_refl _⟩, ⟨by (with_reducible repeat (first | apply Kd.R_alloc | apply Kd.R_drewN | apply Kd.R_drew)); exact Kd.R_mono HO280.out (fun _ hk => by (repeat' apply And.intro) <;> first | exact hk.2 | exact hk.1.2 | exact hk.1.1.2 | exact hk.1.1.1 | exact hk.1.1.2.1 | exact hk.1.1.2.2 | exact hk.1.1.1.2 | exact hk.1.1.1.1 | exact hk.1.1.1.1.2 | exact hk.1.1.1.1.1 | exact hk.1.1.1.2.1 | exact hk.1.1.1.2.2 | exact hk.1.1 | exact hk.1.2.1 | exact hk.1.2.2 | exact hk.1.1.2.2.1 | exact hk.1.1.2.2.2 | exact hk.1.1.1.1.1.2 | exact hk.1.1.1.1.2.1 | exact hk.1.1.1.1.2.2 | exact hk.2.1 | exact hk.2.2 | exact hk.2.2.1 | exact hk.2.2.2)⟩, ⟨by (with_reducible repeat (first | apply Kd.R_alloc | apply Kd.R_drewN | apply Kd.R_drew)); exact Kd.R_mono HO290.out (fun _ hk => by (repeat' apply And.intro) <;> first | exact hk.2 | exact hk.1.2 | exact hk.1.1.2 | exact hk.1.1.1 | exact hk.1.1.2.1 | exact hk.1.1.2.2 | exact hk.1.1.1.2 | exact hk.1.1.1.1 | exact hk.1.1.1.1.2 | exact hk.1.1.1.1.1 | exact hk.1.1.1.2.1 | exact hk.1.1.1.2.2 | exact hk.1.1 | exact hk.1.2.1 | exact hk.1.2.2 | exact hk.1.1.2.2.1 | exact hk.1.1.2.2.2 | exact hk.1.1.1.1.1.2 | exact hk.1.1.1.1.2.1 | exact hk.1.1.1.1.2.2 | exact hk.2.1 | exact hk.2.2 | exact hk.2.2.1 | exact hk.2.2.2)⟩, ⟨by (with_reducible repeat (first | apply Kd.R_alloc | apply Kd.R_drewN | apply Kd.R_drew)); exact Kd.R_mono HO283.out (fun _ hk => by (repeat' apply And.intro) <;> first | exact hk.2 | exact hk.1.2 | exact hk.1.1.2 | exact hk.1.1.1 | exact hk.1.1.2.1 | exact hk.1.1.2.2 | exact hk.1.1.1.2 | exact hk.1.1.1.1 | exact hk.1.1.1.1.2 | exact hk.1.1.1.1.1 | exact hk.1.1.1.2.1 | exact hk.1.1.1.2.2 | exact hk.1.1 | exact hk.1.2.1 | exact hk.1.2.2 | exact hk.1.1.2.2.1 | exact hk.1.1.2.2.2 | exact hk.1.1.1.1.1.2 | exact hk.1.1.1.1.2.1 | exact hk.1.1.1.1.2.2 | exact hk.2.1 | exact hk.2.2 | exact hk.2.2.1 | exact hk.2.2.2)⟩, ⟨by (with_reducible repeat (first | apply Kd.R_alloc | apply Kd.R_drewN | apply Kd.R_drew)); exact Kd.R_mono HO286.out (fun _ hk => trivial)⟩, ⟨by (with_reducible repeat (first | refine blk_drewN ?_ _ | refine blk_drew ?_ | refine blk_alloc ?_ _)); exact BK270.out⟩, ⟨by (with_reducible repeat (first | refine blk_drewN ?_ _ | refine blk_drew ?_ | refine blk_alloc ?_ _)); exact BK287.out⟩, ⟨by repeat (first | (with_reducible first | exact HB.out | apply below_alloc | apply pw_below_drewN | apply below_drew1 | refine below_set ?_ GE270.out | refine below_set ?_ GE287.out) | exact HB.out)⟩⟩
          · rw [if_neg c43] at H
            have c43b0 : decide (t299 < 0) = false := decide_eq_false c43
            clear c43
            (first | rw [c43b0] | (simp only [i64_w, i32_w]; rw [c43b0]) | skip)
            replace H := Option.bind_eq_some_iff.mp H
            obtain ⟨t302, A440, H⟩ := H
            replace H : (laws_FnExactLogTexts.j0 k t278 t288 (!t302) l0_0 l0_1) = some r := H
            have A44 := Aside0.mk A440
            clear A440
            have H' := Aside0.mk H
            clear H
            go_wp2_with (first | (go_at_call 21; (with_reducible refine (laws_eqStringS.calls k _ _ t288 _ _ t278 t302 _ ?side1 ?side2 ?side3 ?side4 A44.out).mono ?_); (case side1 => repeat (first | exact (Kd.R_reads' HO290.out).2.2 | (with_reducible refine Kd.C_alloc ?_ _) | (with_reducible refine Kd.C_drewN ?_ _) | (with_reducible refine Kd.C_drew ?_))); (case side2 => exact (Kd.R_reads' HO290.out).2.1); (case side3 => repeat (first | exact (Kd.R_reads' HO280.out).2.2 | (with_reducible refine Kd.C_alloc ?_ _) | (with_reducible refine Kd.C_drewN ?_ _) | (with_reducible refine Kd.C_drew ?_))); (case side4 => exact (Kd.R_reads' HO280.out).2.1); rintro e w' ⟨rfl, ⟨nd, rfl⟩⟩))
            go_meet
            case rel => exact ⟨_, (!t302), (by first | rfl | (simp; done) | (simp [*]; done)), H', ⟨by first | omega | exact Nat.le_refl _⟩, ⟨by (with_reducible repeat (first | apply Kd.R_alloc | apply Kd.R_drewN | apply Kd.R_drew)); exact Kd.R_mono HO280.out (fun _ hk => by (repeat' apply And.intro) <;> first | exact hk.2 | exact hk.1.2 | exact hk.1.1.2 | exact hk.1.1.1 | exact hk.1.1.2.1 | exact hk.1.1.2.2 | exact hk.1.1.1.2 | exact hk.1.1.1.1 | exact hk.1.1.1.1.2 | exact hk.1.1.1.1.1 | exact hk.1.1.1.2.1 | exact hk.1.1.1.2.2 | exact hk.1.1 | exact hk.1.2.1 | exact hk.1.2.2 | exact hk.1.1.2.2.1 | exact hk.1.1.2.2.2 | exact hk.1.1.1.1.1.2 | exact hk.1.1.1.1.2.1 | exact hk.1.1.1.1.2.2 | exact hk.2.1 | exact hk.2.2 | exact hk.2.2.1 | exact hk.2.2.2)⟩, ⟨by (with_reducible repeat (first | apply Kd.R_alloc | apply Kd.R_drewN | apply Kd.R_drew)); exact Kd.R_mono HO290.out (fun _ hk => by (repeat' apply And.intro) <;> first | exact hk.2 | exact hk.1.2 | exact hk.1.1.2 | exact hk.1.1.1 | exact hk.1.1.2.1 | exact hk.1.1.2.2 | exact hk.1.1.1.2 | exact hk.1.1.1.1 | exact hk.1.1.1.1.2 | exact hk.1.1.1.1.1 | exact hk.1.1.1.2.1 | exact hk.1.1.1.2.2 | exact hk.1.1 | exact hk.1.2.1 | exact hk.1.2.2 | exact hk.1.1.2.2.1 | exact hk.1.1.2.2.2 | exact hk.1.1.1.1.1.2 | exact hk.1.1.1.1.2.1 | exact hk.1.1.1.1.2.2 | exact hk.2.1 | exact hk.2.2 | exact hk.2.2.1 | exact hk.2.2.2)⟩, ⟨by (with_reducible repeat (first | apply Kd.R_alloc | apply Kd.R_drewN | apply Kd.R_drew)); exact Kd.R_mono HO283.out (fun _ hk => by (repeat' apply And.intro) <;> first | exact hk.2 | exact hk.1.2 | exact hk.1.1.2 | exact hk.1.1.1 | exact hk.1.1.2.1 | exact hk.1.1.2.2 | exact hk.1.1.1.2 | exact hk.1.1.1.1 | exact hk.1.1.1.1.2 | exact hk.1.1.1.1.1 | exact hk.1.1.1.2.1 | exact hk.1.1.1.2.2 | exact hk.1.1 | exact hk.1.2.1 | exact hk.1.2.2 | exact hk.1.1.2.2.1 | exact hk.1.1.2.2.2 | exact hk.1.1.1.1.1.2 | exact hk.1.1.1.1.2.1 | exact hk.1.1.1.1.2.2 | exact hk.2.1 | exact hk.2.2 | exact hk.2.2.1 | exact hk.2.2.2)⟩, ⟨by (with_reducible repeat (first | apply Kd.R_alloc | apply Kd.R_drewN | apply Kd.R_drew)); exact Kd.R_mono HO286.out (fun _ hk => trivial)⟩, ⟨by (with_reducible repeat (first | refine blk_drewN ?_ _ | refine blk_drew ?_ | refine blk_alloc ?_ _)); exact BK270.out⟩, ⟨by (with_reducible repeat (first | refine blk_drewN ?_ _ | refine blk_drew ?_ | refine blk_alloc ?_ _)); exact BK287.out⟩, ⟨by repeat (first | (with_reducible first | exact HB.out | apply below_alloc | apply pw_below_drewN | apply below_drew1 | refine below_set ?_ GE270.out | refine below_set ?_ GE287.out) | exact HB.out)⟩⟩
        case rest =>
          clear HC17
          try clear c1
          try clear c2
          try clear p2
          try clear c3
          try clear c3b0
          try clear c4
          try clear c8
          try clear c12
          try clear c14
          try clear c15
          try clear c17
          try clear c20
          try clear c21
          try clear c22
          try clear c30
          try clear c43
          try clear c43b0
          try clear c44
          try clear hcz19_0
          try clear hcz19_1
          try clear hcz21_0
          try clear hcz21_1
          try clear hcz26_0
          try clear hcz26_1
          try clear hcz31_0
          try clear hcz31_1
          try clear hcz41_0
          try clear hcz41_1
          try clear hcz5_0
          try clear hcz5_1
          try clear hfz19_0
          try clear hfz19_1
          try clear hfz21_0
          try clear hfz21_1
          try clear hfz26_0
          try clear hfz26_1
          try clear hfz31_0
          try clear hfz31_1
          try clear hfz41_0
          try clear hfz41_1
          try clear hfz5_0
          try clear hfz5_1
          obtain ⟨kq, x42_16, rfl, HA, HJ16, HO_4, HO_6, HO_288000, HO_288001, BK270, BK287, HB⟩ := hcut
          have hl288000_16 := (Kd.R_reads' HO_288000.out).1
          rw [hl288000_16] at HO_288000
          (try simp only [hl288000_16])
          (try simp only [hl288000_16] at BK270)
          (try simp only [hl288000_16] at BK287)
          (try simp only [hl288000_16] at HO_4)
          (try simp only [hl288000_16] at HO_6)
          (try simp only [hl288000_16] at HO_288001)
          have hl288001_16 := (Kd.R_reads' HO_288001.out).1
          rw [hl288001_16] at HO_288001
          (try simp only [hl288001_16])
          (try simp only [hl288001_16] at BK270)
          (try simp only [hl288001_16] at BK287)
          (try simp only [hl288001_16] at HO_4)
          (try simp only [hl288001_16] at HO_6)
          (try simp only [hl288001_16] at HO_288000)
          cases kq with
          | zero => exact absurd HA.out (by simp [laws_FnExactLogTexts.j0])
          | succ kj16 =>
            have H := HA.out
            clear HA
            simp only [laws_FnExactLogTexts.j0] at H
            by_cases c45 : x42_16 = true
            · subst c45
              have H1 : (some false) = some r := by rw [if_pos rfl] at H; exact H
              clear H
              have H := H1
              clear H1
              exact absurd ((Option.some.inj H).trans hrt) (by decide)
            · replace c45 := Bool.eq_false_iff.mpr c45
              subst c45
              have H1 : ((laws_markStringS.f kj16 t288 1).bind fun bt303 => ((laws_heldStringS.f kj16 bt303.2 1).bind fun t305 => (if t305 < 0 then (some false) else (if t305 = bt303.1 then ((laws_toDisk.f kj16 l0_0 l0_1).bind fun bt306 => ((impl_LogTexts.f kj16 bt306.1 bt306.2).bind fun t312 => ((laws_eqStringS.f kj16 t312 t278).bind fun t315 => (if t315 = true then ((laws_heldStringS.f kj16 bt303.2 1).bind fun t316 => (if t316 < 0 then (some false) else (if t316 = bt303.1 then (some true) else (some false)))) else (some false))))) else (some false))))) = some r := by rw [if_neg (show ¬ (false = true) by decide)] at H; exact H
              clear H
              have H := H1
              clear H1
              replace H := Option.bind_eq_some_iff.mp H
              obtain ⟨⟨t303, t304⟩, A460, H⟩ := H
              replace H : ((laws_heldStringS.f kj16 t304 1).bind fun t305 => (if t305 < 0 then (some false) else (if t305 = t303 then ((laws_toDisk.f kj16 l0_0 l0_1).bind fun bt306 => ((impl_LogTexts.f kj16 bt306.1 bt306.2).bind fun t312 => ((laws_eqStringS.f kj16 t312 t278).bind fun t315 => (if t315 = true then ((laws_heldStringS.f kj16 t304 1).bind fun t316 => (if t316 < 0 then (some false) else (if t316 = t303 then (some true) else (some false)))) else (some false))))) else (some false)))) = some r := H
              have A46 := Aside0.mk A460
              clear A460
              replace H := Option.bind_eq_some_iff.mp H
              obtain ⟨t305, A470, H⟩ := H
              replace H : (if t305 < 0 then (some false) else (if t305 = t303 then ((laws_toDisk.f kj16 l0_0 l0_1).bind fun bt306 => ((impl_LogTexts.f kj16 bt306.1 bt306.2).bind fun t312 => ((laws_eqStringS.f kj16 t312 t278).bind fun t315 => (if t315 = true then ((laws_heldStringS.f kj16 t304 1).bind fun t316 => (if t316 < 0 then (some false) else (if t316 = t303 then (some true) else (some false)))) else (some false))))) else (some false))) = some r := H
              have A47 := Aside0.mk A470
              clear A470
              by_cases c48 : t305 < 0
              · rw [if_pos c48] at H
                have c48b0 : decide (t305 < 0) = true := decide_eq_true c48
                clear c48
                exact absurd ((Option.some.inj H).trans hrt) (by decide)
              · rw [if_neg c48] at H
                have c48b0 : decide (t305 < 0) = false := decide_eq_false c48
                clear c48
                by_cases c49 : t305 = t303
                · rw [if_pos c49] at H
                  have c49b0 : (t305 == t303) = true := beq_iff_eq.mpr c49
                  have c49b1 : (t305 != t303) = false := bne_eq_false_iff_eq.mpr c49
                  clear c49
                  replace H := Option.bind_eq_some_iff.mp H
                  obtain ⟨⟨t306, t309⟩, A500, H⟩ := H
                  replace H : ((impl_LogTexts.f kj16 t306 t309).bind fun t312 => ((laws_eqStringS.f kj16 t312 t278).bind fun t315 => (if t315 = true then ((laws_heldStringS.f kj16 t304 1).bind fun t316 => (if t316 < 0 then (some false) else (if t316 = t303 then (some true) else (some false)))) else (some false)))) = some r := H
                  have A50 := Aside0.mk A500
                  clear A500
                  replace H := Option.bind_eq_some_iff.mp H
                  obtain ⟨t312, A510, H⟩ := H
                  replace H : ((laws_eqStringS.f kj16 t312 t278).bind fun t315 => (if t315 = true then ((laws_heldStringS.f kj16 t304 1).bind fun t316 => (if t316 < 0 then (some false) else (if t316 = t303 then (some true) else (some false)))) else (some false))) = some r := H
                  have A51 := Aside0.mk A510
                  clear A510
                  replace H := Option.bind_eq_some_iff.mp H
                  obtain ⟨t315, A520, H⟩ := H
                  replace H : (if t315 = true then ((laws_heldStringS.f kj16 t304 1).bind fun t316 => (if t316 < 0 then (some false) else (if t316 = t303 then (some true) else (some false)))) else (some false)) = some r := H
                  have A52 := Aside0.mk A520
                  clear A520
                  by_cases c53 : t315 = true
                  · subst c53
                    have H1 : ((laws_heldStringS.f kj16 t304 1).bind fun t316 => (if t316 < 0 then (some false) else (if t316 = t303 then (some true) else (some false)))) = some r := by rw [if_pos rfl] at H; exact H
                    clear H
                    have H := H1
                    clear H1
                    replace H := Option.bind_eq_some_iff.mp H
                    obtain ⟨t316, A540, H⟩ := H
                    replace H : (if t316 < 0 then (some false) else (if t316 = t303 then (some true) else (some false))) = some r := H
                    have A54 := Aside0.mk A540
                    clear A540
                    by_cases c55 : t316 < 0
                    · rw [if_pos c55] at H
                      have c55b0 : decide (t316 < 0) = true := decide_eq_true c55
                      clear c55
                      exact absurd ((Option.some.inj H).trans hrt) (by decide)
                    · rw [if_neg c55] at H
                      have c55b0 : decide (t316 < 0) = false := decide_eq_false c55
                      clear c55
                      by_cases c56 : t316 = t303
                      · rw [if_pos c56] at H
                        have c56b0 : (t316 == t303) = true := beq_iff_eq.mpr c56
                        have c56b1 : (t316 != t303) = false := bne_eq_false_iff_eq.mpr c56
                        clear c56
                        obtain rfl := Option.some.inj H
                        go_wp2_with (first | ((with_reducible refine gate_callee (f := 23) rfl ?_); refine goesL_ (some 45) rfl rfl Try.func23 (by kernel_rfl) rfl #[.slice Ao34 t288.length co34, .int .i64 1] rfl (by (try simp only [List.map_toArray, List.map_cons, List.map_nil]); first | done | rfl | (simp only [List.length_drop, List.length_take]; rfl)) ?_; (with_reducible refine (laws_markStringS.calls kj16 (fun k_ => some k_ = (.slice Ao34 t288.length co34 : Value).ownBlock) (.slice Ao34 t288.length co34) t288 1 t303 t304 w _ ?side1 ?side2 A46.out).mono ?_); (case side1 => repeat (first | (with_reducible first | exact HB.out | apply below_alloc | apply pw_below_drewN | apply below_drew1 | refine below_set ?_ GE270.out | refine below_set ?_ GE287.out) | exact HB.out)); (case side2 => exact Kd.R_tight rfl HO_6.out); rintro e w57 ⟨rfl, hy0, hb, hkp⟩; refine ⟨_, rfl, ?_⟩; have n0_ := Aside0.mk (Kd.R_mono (ok' := fun k_ => some k_ ≠ (.slice Ao34 t288.length co34 : Value).ownBlock ∧ some k_ ≠ (.slice Ao29 t300.length co29 : Value).ownBlock) (Kd.R_keptB (HO_4.out) hkp (fun k_ hk_ hs_ => (hk_.1) hs_)) (fun k_ hk_ => ⟨hk_.1.1, hk_.1.2⟩)); have n1_ := Aside0.mk (Kd.R_reok rfl hy0 (fun k_ e_ => HO_6.out.1 k_ e_)); have n2_ := Aside0.mk (Kd.R_mono (ok' := fun k_ => some k_ ≠ (.slice Ao35 t278.length co35 : Value).ownBlock ∧ some k_ ≠ (.slice Ao34 t288.length co34 : Value).ownBlock) (Kd.R_keptB (HO_288000.out) hkp (fun k_ hk_ hs_ => (hk_.2) hs_)) (fun k_ hk_ => ⟨hk_.1.1, hk_.1.2⟩)); have n3_ := Aside0.mk (Kd.R_mono (ok' := fun k_ => True) (Kd.R_keptB ((Kd.R_apart' HO_288001.out (Kd.R_typed HO_6.out) (by decide))) hkp (fun k_ hk_ hs_ => (hk_.2) hs_)) (fun k_ hk_ => trivial)); have n4_ := Aside0.mk (blk_kept (by (with_reducible repeat (first | refine blk_drewN ?_ _ | refine blk_drew ?_ | refine blk_alloc ?_ _)); exact BK270.out) hkp (fun hs_ => (fun e_ => (Kd.R_ne HO_6.out BK270.out (by decide)) e_) hs_)); have n5_ := Aside0.mk (blk_kept (by (with_reducible repeat (first | refine blk_drewN ?_ _ | refine blk_drew ?_ | refine blk_alloc ?_ _)); exact BK287.out) hkp (fun hs_ => (fun e_ => (Kd.R_ne HO_6.out BK287.out (by decide)) e_) hs_)); have n6_ := Aside0.mk (hb); clear HO_4; clear HO_6; clear HO_288000; clear HO_288001; clear BK270; clear BK287; clear HB; have HO_4 := n0_; have HO_6 := n1_; have HO_288000 := n2_; have HO_288001 := n3_; have BK270 := n4_; have BK287 := n5_; have HB := n6_; clear n0_ n1_ n2_ n3_ n4_ n5_ n6_; (try clear hb); (try clear hkp); (try clear hy0)) | ((with_reducible refine gate_callee (f := 47) rfl ?_); refine goesL_ (some 48) rfl rfl Try.func47 (by kernel_rfl) rfl #[.slice Ao34 t304.length co34, .int .i64 1] rfl (by (try simp only [List.map_toArray, List.map_cons, List.map_nil]); first | done | (rw [show t304.length = t288.length from (Kd.R_reads' HO_6.out).1.symm] <;> rfl) | rfl | (simp only [List.length_drop, List.length_take]; rfl)) ?_; (with_reducible refine (laws_heldStringS.calls kj16 _ _ t304 1 t305 _ ?side1 ?side2 A47.out).mono ?_); (case side1 => repeat (first | exact (Kd.R_reads' HO_6.out).2.2 | (with_reducible refine Kd.C_alloc ?_ _) | (with_reducible refine Kd.C_drewN ?_ _) | (with_reducible refine Kd.C_drew ?_))); (case side2 => rw [show t304.length = t288.length from (Kd.R_reads' HO_6.out).1.symm]; exact (Kd.R_reads' HO_6.out).2.1); rintro e w58 ⟨rfl, hb⟩; refine ⟨_, rfl, ?_⟩; have n0_ := Aside0.mk (Kd.R_below (by (with_reducible repeat (first | apply Kd.R_alloc | apply Kd.R_drewN | apply Kd.R_drew)); exact HO_4.out) hb); have n1_ := Aside0.mk (Kd.R_below (by (with_reducible repeat (first | apply Kd.R_alloc | apply Kd.R_drewN | apply Kd.R_drew)); exact HO_6.out) hb); have n2_ := Aside0.mk (Kd.R_below (by (with_reducible repeat (first | apply Kd.R_alloc | apply Kd.R_drewN | apply Kd.R_drew)); exact HO_288000.out) hb); have n3_ := Aside0.mk (Kd.R_below (by (with_reducible repeat (first | apply Kd.R_alloc | apply Kd.R_drewN | apply Kd.R_drew)); exact HO_288001.out) hb); have n4_ := Aside0.mk (blk_below (g := gb270) (o := .cells #[.slice A0_0 l0_0.length c0_0, .slice A0_1 l0_1.length c0_1] 25 (0, 0)) (by (with_reducible repeat (first | refine blk_drewN ?_ _ | refine blk_drew ?_ | refine blk_alloc ?_ _)); exact BK270.out) hb); have n5_ := Aside0.mk (blk_below (g := gb287) (o := .cells #[.slice Ao29 t300.length co29, .slice Ao32 t301.length co32] 30 (0, 0)) (by (with_reducible repeat (first | refine blk_drewN ?_ _ | refine blk_drew ?_ | refine blk_alloc ?_ _)); exact BK287.out) hb); have n6_ := Aside0.mk (below_step (by repeat (first | (with_reducible first | exact HB.out | apply below_alloc | apply pw_below_drewN | apply below_drew1 | refine below_set ?_ GE270.out | refine below_set ?_ GE287.out) | exact HB.out)) hb); clear HO_4; clear HO_6; clear HO_288000; clear HO_288001; clear BK270; clear BK287; clear HB; have HO_4 := n0_; have HO_6 := n1_; have HO_288000 := n2_; have HO_288001 := n3_; have BK270 := n4_; have BK287 := n5_; have HB := n6_; clear n0_ n1_ n2_ n3_ n4_ n5_ n6_; (try clear hb); (try clear hb2); (try clear hk); (try clear hi); have hnb59 := NB270_287.out; have hnc59 := NB287_270.out; have hcz60_0 : w58.cell? ⟨gb270, 0, none⟩ = some (.slice A0_0 l0_0.length c0_0) := (blk_cell BK270.out 0).trans rfl; have hcz60_1 : w58.cell? ⟨gb270, 1, none⟩ = some (.slice A0_1 l0_1.length c0_1) := (blk_cell BK270.out 1).trans rfl; have hfz60_0 := blk_frozen BK270.out 0; have hfz60_1 := blk_frozen BK270.out 1) | ((with_reducible refine gate_callee (f := 17) rfl ?_); refine goesL_ (some 55) rfl rfl Try.func17 (by kernel_rfl) rfl #[.agg #[.slice A0_0 l0_0.length c0_0, .slice A0_1 l0_1.length c0_1]] rfl (by (try simp only [List.map_toArray, List.map_cons, List.map_nil]); first | done | rfl | (simp only [List.length_drop, List.length_take]; rfl)) ?_; (with_reducible refine (laws_toDisk.calls kj16 _ _ l0_0 _ _ l0_1 t306 t309 _ ?side1 ?side2 ?side3 ?side4 A50.out).mono ?_); (case side1 => repeat (first | exact (Kd.C_below HR0_0.out HB.out) | (with_reducible refine Kd.C_alloc ?_ _) | (with_reducible refine Kd.C_drewN ?_ _) | (with_reducible refine Kd.C_drew ?_))); (case side2 => exact HC0_0.out); (case side3 => repeat (first | exact (Kd.C_below HR0_1.out HB.out) | (with_reducible refine Kd.C_alloc ?_ _) | (with_reducible refine Kd.C_drewN ?_ _) | (with_reducible refine Kd.C_drew ?_))); (case side4 => exact HC0_1.out); rintro e w61 ⟨v307, v310, rfl, ho0, ho1, hb⟩; refine ⟨_, rfl, ?_⟩; have n0_ := Aside0.mk (Kd.R_elder' (by (with_reducible repeat (first | apply Kd.R_alloc | apply Kd.R_drewN | apply Kd.R_drew)); exact HO_4.out) (Kd.R_base ho0) hb); have n1_ := Aside0.mk (Kd.R_elder' (by (with_reducible repeat (first | apply Kd.R_alloc | apply Kd.R_drewN | apply Kd.R_drew)); exact HO_6.out) (Kd.R_base ho0) hb); have n2_ := Aside0.mk (Kd.R_elder' (by (with_reducible repeat (first | apply Kd.R_alloc | apply Kd.R_drewN | apply Kd.R_drew)); exact HO_288000.out) (Kd.R_base ho0) hb); have n3_ := Aside0.mk (Kd.R_elder' (by (with_reducible repeat (first | apply Kd.R_alloc | apply Kd.R_drewN | apply Kd.R_drew)); exact HO_288001.out) (Kd.R_base ho1) hb); have n4_ := Aside0.mk (Kd.R_lower (Kd.R_new' (Kd.R_new' (Kd.R_new' ho0 (Kd.R_lt (by (with_reducible repeat (first | apply Kd.R_alloc | apply Kd.R_drewN | apply Kd.R_drew)); exact HO_4.out))) (Kd.R_lt (by (with_reducible repeat (first | apply Kd.R_alloc | apply Kd.R_drewN | apply Kd.R_drew)); exact HO_6.out))) (Kd.R_lt (by (with_reducible repeat (first | apply Kd.R_alloc | apply Kd.R_drewN | apply Kd.R_drew)); exact HO_288000.out))) (below_size (by repeat (first | (with_reducible first | exact HB.out | apply below_alloc | apply pw_below_drewN | apply below_drew1 | refine below_set ?_ GE270.out | refine below_set ?_ GE287.out) | exact HB.out)))); have n5_ := Aside0.mk (Kd.R_lower (Kd.R_new' ho1 (Kd.R_lt (by (with_reducible repeat (first | apply Kd.R_alloc | apply Kd.R_drewN | apply Kd.R_drew)); exact HO_288001.out))) (below_size (by repeat (first | (with_reducible first | exact HB.out | apply below_alloc | apply pw_below_drewN | apply below_drew1 | refine below_set ?_ GE270.out | refine below_set ?_ GE287.out) | exact HB.out)))); have n6_ := Aside0.mk (blk_below (g := gb270) (o := .cells #[.slice A0_0 l0_0.length c0_0, .slice A0_1 l0_1.length c0_1] 25 (0, 0)) (by (with_reducible repeat (first | refine blk_drewN ?_ _ | refine blk_drew ?_ | refine blk_alloc ?_ _)); exact BK270.out) hb); have n7_ := Aside0.mk (blk_below (g := gb287) (o := .cells #[.slice Ao29 t300.length co29, .slice Ao32 t301.length co32] 30 (0, 0)) (by (with_reducible repeat (first | refine blk_drewN ?_ _ | refine blk_drew ?_ | refine blk_alloc ?_ _)); exact BK287.out) hb); have n8_ := Aside0.mk (below_step (by repeat (first | (with_reducible first | exact HB.out | apply below_alloc | apply pw_below_drewN | apply below_drew1 | refine below_set ?_ GE270.out | refine below_set ?_ GE287.out) | exact HB.out)) hb); clear HO_4; clear HO_6; clear HO_288000; clear HO_288001; clear BK270; clear BK287; clear HB; have HO_4 := n0_; have HO_6 := n1_; have HO_288000 := n2_; have HO_288001 := n3_; have HO308 := n4_; have HO311 := n5_; have BK270 := n6_; have BK287 := n7_; have HB := n8_; clear n0_ n1_ n2_ n3_ n4_ n5_ n6_ n7_ n8_; (try clear hb); (try clear hb2); (try clear hk); (try clear hi); (try clear ho0); (try clear ho1); obtain ⟨Ao62, co62, eo62⟩ := Kd.R_slice HO308.out; subst eo62; obtain ⟨Ao63, co63, eo63⟩ := Kd.R_slice HO311.out; subst eo63) | ((with_reducible refine gate_callee (f := 43) rfl ?_); refine goesL_ (some 56) rfl rfl Try.func43 (by kernel_rfl) rfl #[.agg #[.slice Ao62 t306.length co62, .slice Ao63 t309.length co63]] rfl (by (try simp only [List.map_toArray, List.map_cons, List.map_nil]); first | done | rfl | (simp only [List.length_drop, List.length_take]; rfl)) ?_; (with_reducible refine (impl_LogTexts.calls kj16 _ _ t306 _ _ t309 t312 _ ?side1 ?side2 ?side3 ?side4 A51.out).mono ?_); (case side1 => repeat (first | exact (Kd.R_reads' HO308.out).2.2 | (with_reducible refine Kd.C_alloc ?_ _) | (with_reducible refine Kd.C_drewN ?_ _) | (with_reducible refine Kd.C_drew ?_))); (case side2 => exact (Kd.R_reads' HO308.out).2.1); (case side3 => repeat (first | exact (Kd.R_reads' HO311.out).2.2 | (with_reducible refine Kd.C_alloc ?_ _) | (with_reducible refine Kd.C_drewN ?_ _) | (with_reducible refine Kd.C_drew ?_))); (case side4 => exact (Kd.R_reads' HO311.out).2.1); rintro e w64 ⟨v313, rfl, ho0, hb⟩; refine ⟨_, rfl, ?_⟩; have n0_ := Aside0.mk (Kd.R_elder' (by (with_reducible repeat (first | apply Kd.R_alloc | apply Kd.R_drewN | apply Kd.R_drew)); exact HO_4.out) (Kd.R_base ho0) hb); have n1_ := Aside0.mk (Kd.R_elder' (by (with_reducible repeat (first | apply Kd.R_alloc | apply Kd.R_drewN | apply Kd.R_drew)); exact HO_6.out) (Kd.R_base ho0) hb); have n2_ := Aside0.mk (Kd.R_elder' (by (with_reducible repeat (first | apply Kd.R_alloc | apply Kd.R_drewN | apply Kd.R_drew)); exact HO_288000.out) (Kd.R_base ho0) hb); have n3_ := Aside0.mk (Kd.R_below (by (with_reducible repeat (first | apply Kd.R_alloc | apply Kd.R_drewN | apply Kd.R_drew)); exact HO_288001.out) hb); have n4_ := Aside0.mk (Kd.R_elder' (by (with_reducible repeat (first | apply Kd.R_alloc | apply Kd.R_drewN | apply Kd.R_drew)); exact HO308.out) (Kd.R_base ho0) hb); have n5_ := Aside0.mk (Kd.R_below (by (with_reducible repeat (first | apply Kd.R_alloc | apply Kd.R_drewN | apply Kd.R_drew)); exact HO311.out) hb); have n6_ := Aside0.mk (Kd.R_lower (Kd.R_new' (Kd.R_new' (Kd.R_new' (Kd.R_new' ho0 (Kd.R_lt (by (with_reducible repeat (first | apply Kd.R_alloc | apply Kd.R_drewN | apply Kd.R_drew)); exact HO_4.out))) (Kd.R_lt (by (with_reducible repeat (first | apply Kd.R_alloc | apply Kd.R_drewN | apply Kd.R_drew)); exact HO_6.out))) (Kd.R_lt (by (with_reducible repeat (first | apply Kd.R_alloc | apply Kd.R_drewN | apply Kd.R_drew)); exact HO_288000.out))) (Kd.R_lt (by (with_reducible repeat (first | apply Kd.R_alloc | apply Kd.R_drewN | apply Kd.R_drew)); exact HO308.out))) (below_size (by repeat (first | (with_reducible first | exact HB.out | apply below_alloc | apply pw_below_drewN | apply below_drew1 | refine below_set ?_ GE270.out | refine below_set ?_ GE287.out) | exact HB.out)))); have n7_ := Aside0.mk (blk_below (g := gb270) (o := .cells #[.slice A0_0 l0_0.length c0_0, .slice A0_1 l0_1.length c0_1] 25 (0, 0)) (by (with_reducible repeat (first | refine blk_drewN ?_ _ | refine blk_drew ?_ | refine blk_alloc ?_ _)); exact BK270.out) hb); have n8_ := Aside0.mk (blk_below (g := gb287) (o := .cells #[.slice Ao29 t300.length co29, .slice Ao32 t301.length co32] 30 (0, 0)) (by (with_reducible repeat (first | refine blk_drewN ?_ _ | refine blk_drew ?_ | refine blk_alloc ?_ _)); exact BK287.out) hb); have n9_ := Aside0.mk (below_step (by repeat (first | (with_reducible first | exact HB.out | apply below_alloc | apply pw_below_drewN | apply below_drew1 | refine below_set ?_ GE270.out | refine below_set ?_ GE287.out) | exact HB.out)) hb); clear HO_4; clear HO_6; clear HO_288000; clear HO_288001; clear HO308; clear HO311; clear BK270; clear BK287; clear HB; have HO_4 := n0_; have HO_6 := n1_; have HO_288000 := n2_; have HO_288001 := n3_; have HO308 := n4_; have HO311 := n5_; have HO314 := n6_; have BK270 := n7_; have BK287 := n8_; have HB := n9_; clear n0_ n1_ n2_ n3_ n4_ n5_ n6_ n7_ n8_ n9_; (try clear hb); (try clear hb2); (try clear hk); (try clear hi); (try clear ho0); obtain ⟨Ao65, co65, eo65⟩ := Kd.R_slice HO314.out; subst eo65) | ((with_reducible refine gate_callee (f := 21) rfl ?_); refine goesL_ (some 59) rfl rfl Try.func21 (by kernel_rfl) rfl #[.slice Ao65 t312.length co65, .slice Ao35 t278.length co35] rfl (by (try simp only [List.map_toArray, List.map_cons, List.map_nil]); first | done | rfl | (simp only [List.length_drop, List.length_take]; rfl)) ?_; (with_reducible refine (laws_eqStringS.calls kj16 _ _ t312 _ _ t278 true _ ?side1 ?side2 ?side3 ?side4 A52.out).mono ?_); (case side1 => repeat (first | exact (Kd.R_reads' HO314.out).2.2 | (with_reducible refine Kd.C_alloc ?_ _) | (with_reducible refine Kd.C_drewN ?_ _) | (with_reducible refine Kd.C_drew ?_))); (case side2 => exact (Kd.R_reads' HO314.out).2.1); (case side3 => repeat (first | exact (Kd.R_reads' HO_4.out).2.2 | (with_reducible refine Kd.C_alloc ?_ _) | (with_reducible refine Kd.C_drewN ?_ _) | (with_reducible refine Kd.C_drew ?_))); (case side4 => exact (Kd.R_reads' HO_4.out).2.1); rintro e w' ⟨rfl, ⟨nd, rfl⟩⟩; refine ⟨_, rfl, ?_⟩) | ((with_reducible refine gate_callee (f := 47) rfl ?_); refine goesL_ (some 63) rfl rfl Try.func47 (by kernel_rfl) rfl #[.slice Ao34 t304.length co34, .int .i64 1] rfl (by (try simp only [List.map_toArray, List.map_cons, List.map_nil]); first | done | (rw [show t304.length = t288.length from (Kd.R_reads' HO_6.out).1.symm] <;> rfl) | rfl | (simp only [List.length_drop, List.length_take]; rfl)) ?_; (with_reducible refine (laws_heldStringS.calls kj16 _ _ t304 1 t316 _ ?side1 ?side2 A54.out).mono ?_); (case side1 => repeat (first | exact (Kd.R_reads' HO_6.out).2.2 | (with_reducible refine Kd.C_alloc ?_ _) | (with_reducible refine Kd.C_drewN ?_ _) | (with_reducible refine Kd.C_drew ?_))); (case side2 => rw [show t304.length = t288.length from (Kd.R_reads' HO_6.out).1.symm]; exact (Kd.R_reads' HO_6.out).2.1); rintro e w66 ⟨rfl, hb⟩; refine ⟨_, rfl, ?_⟩; have n0_ := Aside0.mk (Kd.R_below (by (with_reducible repeat (first | apply Kd.R_alloc | apply Kd.R_drewN | apply Kd.R_drew)); exact HO_4.out) hb); have n1_ := Aside0.mk (Kd.R_below (by (with_reducible repeat (first | apply Kd.R_alloc | apply Kd.R_drewN | apply Kd.R_drew)); exact HO_6.out) hb); have n2_ := Aside0.mk (Kd.R_below (by (with_reducible repeat (first | apply Kd.R_alloc | apply Kd.R_drewN | apply Kd.R_drew)); exact HO_288000.out) hb); have n3_ := Aside0.mk (Kd.R_below (by (with_reducible repeat (first | apply Kd.R_alloc | apply Kd.R_drewN | apply Kd.R_drew)); exact HO_288001.out) hb); have n4_ := Aside0.mk (Kd.R_below (by (with_reducible repeat (first | apply Kd.R_alloc | apply Kd.R_drewN | apply Kd.R_drew)); exact HO308.out) hb); have n5_ := Aside0.mk (Kd.R_below (by (with_reducible repeat (first | apply Kd.R_alloc | apply Kd.R_drewN | apply Kd.R_drew)); exact HO311.out) hb); have n6_ := Aside0.mk (Kd.R_below (by (with_reducible repeat (first | apply Kd.R_alloc | apply Kd.R_drewN | apply Kd.R_drew)); exact HO314.out) hb); have n7_ := Aside0.mk (blk_below (g := gb270) (o := .cells #[.slice A0_0 l0_0.length c0_0, .slice A0_1 l0_1.length c0_1] 25 (0, 0)) (by (with_reducible repeat (first | refine blk_drewN ?_ _ | refine blk_drew ?_ | refine blk_alloc ?_ _)); exact BK270.out) hb); have n8_ := Aside0.mk (blk_below (g := gb287) (o := .cells #[.slice Ao29 t300.length co29, .slice Ao32 t301.length co32] 30 (0, 0)) (by (with_reducible repeat (first | refine blk_drewN ?_ _ | refine blk_drew ?_ | refine blk_alloc ?_ _)); exact BK287.out) hb); have n9_ := Aside0.mk (below_step (by repeat (first | (with_reducible first | exact HB.out | apply below_alloc | apply pw_below_drewN | apply below_drew1 | refine below_set ?_ GE270.out | refine below_set ?_ GE287.out) | exact HB.out)) hb); clear HO_4; clear HO_6; clear HO_288000; clear HO_288001; clear HO308; clear HO311; clear HO314; clear BK270; clear BK287; clear HB; have HO_4 := n0_; have HO_6 := n1_; have HO_288000 := n2_; have HO_288001 := n3_; have HO308 := n4_; have HO311 := n5_; have HO314 := n6_; have BK270 := n7_; have BK287 := n8_; have HB := n9_; clear n0_ n1_ n2_ n3_ n4_ n5_ n6_ n7_ n8_ n9_; (try clear hb); (try clear hb2); (try clear hk); (try clear hi)))
                        go_ret
                        exact ⟨by first | rfl | (simp [errW_none, errW_some] <;> rfl) | (simp [*, errW_none, errW_some] <;> rfl), by repeat (first | (with_reducible first | exact HB.out | apply below_alloc | apply pw_below_drewN | apply below_drew1 | refine below_set ?_ GE270.out | refine below_set ?_ GE287.out) | exact HB.out)⟩
                      · rw [if_neg c56] at H
                        have c56b0 : (t316 == t303) = false := beq_eq_false_iff_ne.mpr c56
                        have c56b1 : (t316 != t303) = true := bne_iff_ne.mpr c56
                        exact absurd ((Option.some.inj H).trans hrt) (by decide)
                  · replace c53 := Bool.eq_false_iff.mpr c53
                    subst c53
                    have H1 : (some false) = some r := by rw [if_neg (show ¬ (false = true) by decide)] at H; exact H
                    clear H
                    have H := H1
                    clear H1
                    exact absurd ((Option.some.inj H).trans hrt) (by decide)
                · rw [if_neg c49] at H
                  have c49b0 : (t305 == t303) = false := beq_eq_false_iff_ne.mpr c49
                  have c49b1 : (t305 != t303) = true := bne_iff_ne.mpr c49
                  exact absurd ((Option.some.inj H).trans hrt) (by decide)
      · replace c15 := Bool.eq_false_iff.mpr c15
        subst c15
        have H1 : (some false) = some r := by rw [if_neg (show ¬ (false = true) by decide)] at H; exact H
        clear H
        have H := H1
        clear H1
        exact absurd ((Option.some.inj H).trans hrt) (by decide)
    · replace c12 := Bool.eq_false_iff.mpr c12
      subst c12
      have H1 : (some false) = some r := by rw [if_neg (show ¬ (false = true) by decide)] at H; exact H
      clear H
      have H := H1
      clear H1
      exact absurd ((Option.some.inj H).trans hrt) (by decide)

end Go.Proofs.Ytlmnbgblmackkaa.QFnExactLogTexts
