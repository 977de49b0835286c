/- The functions that a law uses, as Lean functions, and proofs that the Go code comes to just what they say: written by a program of this session over the translation. Conditions: as each theorem states. -/
import Derived.Test.YtlmnbgblmackkaaQFnExactPutRecordx0
import Derived.Test.YtlmnbgblmackkaaQFnExactPutRecordx13
namespace Go.Proofs.Ytlmnbgblmackkaa.QFnExactPutRecord
open Go.RowKit Go.Proofs.YtlmnbgblmackkaaW.PrintWords Go.Proofs.YtlmnbgblmackkaaW.PrintLast Go.Proofs.YtlmnbgblmackkaaW.PrintMore Go.Proofs.YtlmnbgblmackkaaW.Sh
attribute [local go_sem] max2_int min2_int max_two min_two max_three min_three max_four min_four   -- for this text's walks alone
set_option linter.unusedVariables false
set_option linter.unusedSimpArgs false

/-! ### spec_l04Sectors: function 87 -/
def spec_l04Sectors.f  : Option (Int) := some 97
set_option maxHeartbeats 8000000 in
set_option maxRecDepth 100000 in
theorem spec_l04Sectors.calls  (r : Int) (w : World) (h : spec_l04Sectors.f  = some r) :
    Calls Try.prog 87 #[] w fun e w' => e = .returned (.int .i64 r) ∧ Drawn0 w w' := by
  have H : (some 97) = some r := h; clear h; obtain rfl := Option.some.inj H; go_enter Try.func87, Try.ntmps87; go_wp2; go_ret; (exact ⟨by first | rfl | (simp; done) | (simp [*]; done), by repeat (first | exact Drawn0.refl _ | apply Drawn0.step)⟩)

/-! ### spec_LogOk: function 34 -/
def spec_LogOk.j0 : Nat → Bool → List ByteArray → List (S88) → Option (Bool)
  | 0, _, _, _ => none
  | k + 1, x24, x437000, x437001 => if x24 = true then (some false) else ((spec_ReadArea.f k x437000 x437001 0).bind fun bt439 => ((spec_ReadArea.f k x437000 x437001 1).bind fun bt444 => (if bt439.2.2 = true then (some bt444.2.2) else (some false))))
def spec_LogOk.f (k : Nat) (l0_0 : List ByteArray) (l0_1 : List (S88)) : Option (Bool) := (spec_DiskOk.f k l0_0 l0_1).bind fun t437 => (if t437 = true then ((spec_l04Sectors.f).bind fun t438 => (if (l0_0.length : Int) = t438 then (spec_LogOk.j0 k (decide ((l0_1.length : Int) > 0)) l0_0 l0_1) else (spec_LogOk.j0 k true l0_0 l0_1))) else (spec_LogOk.j0 k true l0_0 l0_1))
theorem spec_LogOk.mono_l : ∀ k, (∀ y0 y1 y2, LeO (spec_LogOk.j0 k y0 y1 y2) (spec_LogOk.j0 (k + 1) y0 y1 y2))
  | 0 => fun _ _ _ r h => by simp [spec_LogOk.j0] at h
  | k + 1 => by
    have ih0 := spec_LogOk.mono_l k
    · intro y0 y1 y2
      unfold spec_LogOk.j0
      repeat' first
      | (with_reducible exact ih0 _ _ _)
      | (with_reducible exact spec_DiskOk.mono _ _ _)
      | (with_reducible exact spec_ReadArea.mono _ _ _ _)
      | (with_reducible exact LeO.refl _)
      | (with_reducible exact LeO.none _)
      | (with_reducible refine LeO.ite ?_ ?_)
      | (with_reducible refine LeO.bind ?_ (fun _ => ?_))
      | exact ih0 _ _ _
      | exact spec_DiskOk.mono _ _ _
      | exact spec_ReadArea.mono _ _ _ _
      | exact LeO.none _
      | refine LeO.ite ?_ ?_
      | refine LeO.bind ?_ (fun _ => ?_)
theorem spec_LogOk.mono : ∀ a0 a1 k, LeO (spec_LogOk.f k a0 a1) (spec_LogOk.f (k + 1) a0 a1) := by
  intro a0 a1 k; have ih0 := spec_LogOk.mono_l k; unfold spec_LogOk.f; (repeat' first | (with_reducible exact ih0 _ _ _) | (with_reducible exact spec_DiskOk.mono _ _ _) | (with_reducible exact spec_ReadArea.mono _ _ _ _) | (with_reducible exact LeO.refl _) | (with_reducible exact LeO.none _) | (with_reducible refine LeO.ite ?_ ?_) | (with_reducible refine LeO.bind ?_ (fun _ => ?_)) | exact ih0 _ _ _ | exact spec_DiskOk.mono _ _ _ | exact spec_ReadArea.mono _ _ _ _ | exact LeO.none _ | refine LeO.ite ?_ ?_ | refine LeO.bind ?_ (fun _ => ?_))
def spec_LogOk.T1 : Bool × List (List Nat × List Nat) := (true, [([], []), ([0], [0]), ([1], [1]), ([2, 1], [2]), ([3], [3]), ([4, 3], [3, 4]), ([5, 3], [3, 5]), ([3, 3], [3]), ([6, 7, 3], [3, 6, 7]), ([3, 8], [3, 8]), ([9, 7], [9]), ([10], [10]), ([11, 10], [10, 11]), ([12, 10], [10, 12]), ([13, 10], [10, 13]), ([10, 14], [10, 14])])
def spec_LogOk.B1 : List Nat := [0, 1, 3, 7, 15, 31, 63, 15, 255, 511, 1023, 2047, 4095, 8191, 16383, 32767]
theorem spec_LogOk.tab1 : rtab .any (opsOf Try.f34 1) = spec_LogOk.T1 := by kernel_rfl
theorem spec_LogOk.bits1 : waitsOk spec_LogOk.T1.2 spec_LogOk.B1 = true := by kernel_rfl
set_option maxHeartbeats 8000000 in
set_option maxRecDepth 100000 in
theorem spec_LogOk.calls (k : Nat) (A0_0 : Option Addr) (c0_0 : Nat) (l0_0 : List ByteArray) (A0_1 : Option Addr) (c0_1 : Nat) (l0_1 : List (S88)) (r : Bool) (w : World) (hr0_0 : Kd.C Kd.string w A0_0 l0_0.length l0_0) (hc0_0 : l0_0.length ≤ c0_0) (hr0_1 : Kd.C k88 w A0_1 l0_1.length l0_1) (hc0_1 : l0_1.length ≤ c0_1) (h : spec_LogOk.f k l0_0 l0_1 = some r) :
    Calls Try.prog 34 #[.agg #[.slice A0_0 l0_0.length c0_0, .slice A0_1 l0_1.length c0_1]] w fun e w' => e = .returned (.bool r) ∧ Below w.heap.size w w' := by
  have hu30 := Try.underlying30; have HR0_0 := Aside0.mk hr0_0; have HC0_0 := Aside0.mk hc0_0; clear hr0_0 hc0_0; have HR0_1 := Aside0.mk hr0_1; have HC0_1 := Aside0.mk hc0_1; clear hr0_1 hc0_1; have HB := Aside0.mk (Below.refl w.heap.size w); (have H : ((spec_DiskOk.f k l0_0 l0_1).bind fun t437 => (if t437 = true then ((spec_l04Sectors.f).bind fun t438 => (if (l0_0.length : Int) = t438 then (spec_LogOk.j0 k (decide ((l0_1.length : Int) > 0)) l0_0 l0_1) else (spec_LogOk.j0 k true l0_0 l0_1))) else (spec_LogOk.j0 k true l0_0 l0_1))) = some r := h); clear h; have HC2 := Aside0.mk H; clear H; go_enter Try.func34, Try.ntmps34; (go_upto_region 1 with (first | ((with_reducible refine gate_dst (N := 1) rfl ?_); (try (refine gate_guard (by rfl) ?_; dsimp only)); refine box_event ?hg (N := 1) ?hd (cs := #[.slice A0_0 l0_0.length c0_0, .slice A0_1 l0_1.length c0_1]) (t := 30) ?hr ?_; (case hd => rfl); (case hg => rfl); (case hr => first | (go_simp; done) | (go_simp; rfl)); intro gb436 hg w3 hbox hb; have n0_ := Aside0.mk (below_step bB hb); have n1_ := Aside0.mk (hbox); have n2_ := Aside0.mk ((by rw [hg]; exact (below_size bB) : w.heap.size ≤ gb436)); have n3_ := Aside0.mk ((by rw [hg]; exact (below_size bB) : w.heap.size ≤ gb436)); clear HB; have HB := n0_; have BK436 := n1_; have GW436 := n2_; have GE436 := n3_; clear n0_ n1_ n2_ n3_; clear hb hbox hg))); (try simp only [Act.put, lB, lZ, lS]); (go_cut [24] (fun v24 wc => ∃ (kq : Nat) (x24_1 : Bool), v24 = .bool x24_1 ∧ Aside0 (spec_LogOk.j0 kq x24_1 l0_0 l0_1 = some r) ∧ Aside0 (kq ≤ k) ∧ Aside0 (wc.heap[gb436]? = some (.cells #[(.slice A0_0 l0_0.length c0_0), (.slice A0_1 l0_1.length c0_1)] 30 (0, 0))) ∧ Aside0 (Below w.heap.size w wc)))
  case first =>
   have H := HC2.out; clear HC2; replace H := oB H; obtain ⟨t437, A40, H⟩ := H; (replace H : (if t437 = true then ((spec_l04Sectors.f).bind fun t438 => (if (l0_0.length : Int) = t438 then (spec_LogOk.j0 k (decide ((l0_1.length : Int) > 0)) l0_0 l0_1) else (spec_LogOk.j0 k true l0_0 l0_1))) else (spec_LogOk.j0 k true l0_0 l0_1)) = some r := H); have A4 := Aside0.mk A40; clear A40; by_cases c5 : t437 = true
   ·
    subst c5; (have H1 : ((spec_l04Sectors.f).bind fun t438 => (if (l0_0.length : Int) = t438 then (spec_LogOk.j0 k (decide ((l0_1.length : Int) > 0)) l0_0 l0_1) else (spec_LogOk.j0 k true l0_0 l0_1))) = some r := by rw [if_pos rfl] at H; exact H); clear H; have H := H1; clear H1; replace H := oB H; obtain ⟨t438, A60, H⟩ := H; replace H : (if (l0_0.length : Int) = t438 then (spec_LogOk.j0 k (decide ((l0_1.length : Int) > 0)) l0_0 l0_1) else (spec_LogOk.j0 k true l0_0 l0_1)) = some r := H; have A6 := Aside0.mk A60; clear A60; by_cases c7 : (l0_0.length : Int) = t438
    ·
     rw [if_pos c7] at H; have c7b0 : ((l0_0.length : Int) == t438) = true := beq_iff_eq.mpr c7; have c7b1 : ((l0_0.length : Int) != t438) = false := bne_eq_false_iff_eq.mpr c7; clear c7; (first | rw [c7b0] | (simp only [i64_w, i32_w]; rw [c7b0]) | skip); have H' := Aside0.mk H; clear H; (try go_wp2); replace BK436 := Aside0.mk (blk_drew BK436.out); replace HB := Aside0.mk (below_drew1 HB.out); (refine start_ (n := 16) (S := fun w' => w'.cell? ⟨gb436, 0, none⟩ = some (.slice A0_0 l0_0.length c0_0) ∧ w'.cell? ⟨gb436, 1, none⟩ = some (.slice A0_1 l0_1.length c0_1)) (ds := []) #[F,F,F,F,F,F,F,F,F,F,F,F,F,F,F,F] (by kernel_rfl) rfl rfl (b3 BK436) (fun hHeld => ?_); refine with_tabW spec_LogOk.tab1 spec_LogOk.bits1 (fun HT_ HW_ => ?_)); generalize w3.drew = w8 at BK436 HB hHeld ⊢; (refine take_ (i := 0) (N := some 9) (v := ?_) (a' := ?_) #[T,F,F,F,F,F,F,F,F,F,F,F,F,F,F,F] rfl rfl (take_ofW HT_.out HW_.out (by kernel_rfl)) (fun _ _ _ h => h) (Or.inl ⟨by rfl, ?_⟩) hHeld ?_ ?_); rotate_left
     · rintro w' ⟨s0, s1⟩; go_simp; (with_reducible rfl)
     rotate_left
     · simp only [Act.put, lB, lZ, lS, i64_w, i32_w]; rfl
     (refine one_ (i := 1) (N := some 10) #[T,T,F,F,F,F,F,F,F,F,F,F,F,F,F,F] rfl rfl (one_of HT_.out (by kernel_rfl)) (by decide) (fun K hK => ?_)); (refine gO Try.func57 #[.agg #[.slice A0_0 l0_0.length c0_0, .slice A0_1 l0_1.length c0_1]] ?_); (with_reducible refine (spec_DiskOk.calls k _ _ l0_0 _ _ l0_1 true _ ?side1 HC0_0.out ?side3 HC0_1.out A4.out).mono ?_); (case side1 => exact cB HR0_0); (case side3 => exact cB HR0_1); rintro e w9 ⟨rfl, hb⟩; refine ⟨_, rfl, ?_⟩; replace BK436 := kB BK436 hb; replace HB := bS hb; (try clear hb); (try clear hb2); (try clear hk); (try clear hi); (refine hK.out _ _ (b3 BK436) (fun hHeld => ?_)); clear hK K; refine norm_ (a' := ?_) ?_ ?_; rotate_left
     · show Act.put _ (some 10) _ = _; simp only [Act.put, lB, lZ, lS, i64_w, i32_w]; rfl
     refine pu (i := 2) (N := 11) #[T,T,T,F,F,F,F,F,F,F,F,F,F,F,F,F] HT_ ?_; refine pu (i := 3) (N := 12) #[T,T,T,T,F,F,F,F,F,F,F,F,F,F,F,F] HT_ ?_; refine pu (i := 4) (N := 13) #[T,T,T,T,T,F,F,F,F,F,F,F,F,F,F,F] HT_ ?_; (refine take_ (i := 5) (N := some 14) (v := ?_) (a' := ?_) #[T,T,T,T,T,T,F,F,F,F,F,F,F,F,F,F] rfl rfl (take_ofW HT_.out HW_.out (by kernel_rfl)) (fun _ _ _ h => h) (Or.inl ⟨by rfl, ?_⟩) hHeld ?_ ?_); rotate_left
     · rintro w' ⟨s0, s1⟩; go_simp; (with_reducible rfl)
     rotate_left
     · simp only [Act.put, lB, lZ, lS, i64_w, i32_w]; rfl
     refine pu (i := 6) (N := 15) #[T,T,T,T,T,T,T,F,F,F,F,F,F,F,F,F] HT_ ?_; (refine one_ (i := 7) (N := some 16) #[T,T,T,T,T,T,T,T,F,F,F,F,F,F,F,F] rfl rfl (one_of HT_.out (by kernel_rfl)) (by decide) (fun K hK => ?_)); (refine gO Try.func87 #[] ?_); (with_reducible refine (spec_l04Sectors.calls  t438 _ A6.out).mono ?_); rintro e w' ⟨rfl, ⟨nd, rfl⟩⟩; refine ⟨_, rfl, ?_⟩; (refine hK.out _ _ (b3 BK436) (fun hHeld => ?_)); clear hK K; refine norm_ (a' := ?_) ?_ ?_; rotate_left
     · show Act.put _ (some 16) _ = _; simp only [Act.put, lB, lZ, lS, i64_w, i32_w]; rfl
     refine pu (i := 8) (N := 17) #[T,T,T,T,T,T,T,T,T,F,F,F,F,F,F,F] HT_ ?_; refine pu (i := 9) (N := 18) #[T,T,T,T,T,T,T,T,T,T,F,F,F,F,F,F] HT_ ?_; refine pu (i := 10) (N := 19) #[T,T,T,T,T,T,T,T,T,T,T,F,F,F,F,F] HT_ ?_; refine pu (i := 11) (N := 20) #[T,T,T,T,T,T,T,T,T,T,T,T,F,F,F,F] HT_ ?_; (refine take_ (i := 12) (N := some 21) (v := ?_) (a' := ?_) #[T,T,T,T,T,T,T,T,T,T,T,T,T,F,F,F] rfl rfl (take_ofW HT_.out HW_.out (by kernel_rfl)) (fun _ _ _ h => h) (Or.inl ⟨by rfl, ?_⟩) hHeld ?_ ?_); rotate_left
     · rintro w' ⟨s0, s1⟩; go_simp; (with_reducible rfl)
     rotate_left
     · simp only [Act.put, lB, lZ, lS, i64_w, i32_w]; rfl
     refine pu (i := 13) (N := 22) #[T,T,T,T,T,T,T,T,T,T,T,T,T,T,F,F] HT_ ?_; refine pu (i := 14) (N := 23) #[T,T,T,T,T,T,T,T,T,T,T,T,T,T,T,F] HT_ ?_; refine pu (i := 15) (N := 24) #[T,T,T,T,T,T,T,T,T,T,T,T,T,T,T,T] HT_ ?_; (refine done_ (done_of HT_.out (by kernel_rfl)) ?_); (try go_wp2); go_meet; (case rel => exact ⟨_, (decide ((l0_1.length : Int) > 0)), rS, H', ⟨lE⟩, ⟨bk BK436.out⟩, ⟨bB⟩⟩)
    rw [if_neg c7] at H; have c7b0 : ((l0_0.length : Int) == t438) = false := beq_eq_false_iff_ne.mpr c7; have c7b1 : ((l0_0.length : Int) != t438) = true := bne_iff_ne.mpr c7; (first | rw [c7b0] | (simp only [i64_w, i32_w]; rw [c7b0]) | skip); have H' := Aside0.mk H; clear H; (try go_wp2); replace BK436 := Aside0.mk (blk_drew BK436.out); replace HB := Aside0.mk (below_drew1 HB.out); (refine start_ (n := 16) (S := fun w' => w'.cell? ⟨gb436, 0, none⟩ = some (.slice A0_0 l0_0.length c0_0) ∧ w'.cell? ⟨gb436, 1, none⟩ = some (.slice A0_1 l0_1.length c0_1)) (ds := []) #[F,F,F,F,F,F,F,F,F,F,F,F,F,F,F,F] (by kernel_rfl) rfl rfl (b3 BK436) (fun hHeld => ?_); refine with_tabW spec_LogOk.tab1 spec_LogOk.bits1 (fun HT_ HW_ => ?_)); generalize w3.drew = w10 at BK436 HB hHeld ⊢; (refine take_ (i := 0) (N := some 9) (v := ?_) (a' := ?_) #[T,F,F,F,F,F,F,F,F,F,F,F,F,F,F,F] rfl rfl (take_ofW HT_.out HW_.out (by kernel_rfl)) (fun _ _ _ h => h) (Or.inl ⟨by rfl, ?_⟩) hHeld ?_ ?_); rotate_left
    · rintro w' ⟨s0, s1⟩; go_simp; (with_reducible rfl)
    rotate_left
    · simp only [Act.put, lB, lZ, lS, i64_w, i32_w]; rfl
    (refine one_ (i := 1) (N := some 10) #[T,T,F,F,F,F,F,F,F,F,F,F,F,F,F,F] rfl rfl (one_of HT_.out (by kernel_rfl)) (by decide) (fun K hK => ?_)); (refine gO Try.func57 #[.agg #[.slice A0_0 l0_0.length c0_0, .slice A0_1 l0_1.length c0_1]] ?_); (with_reducible refine (spec_DiskOk.calls k _ _ l0_0 _ _ l0_1 true _ ?side1 HC0_0.out ?side3 HC0_1.out A4.out).mono ?_); (case side1 => exact cB HR0_0); (case side3 => exact cB HR0_1); rintro e w11 ⟨rfl, hb⟩; refine ⟨_, rfl, ?_⟩; replace BK436 := kB BK436 hb; replace HB := bS hb; (try clear hb); (try clear hb2); (try clear hk); (try clear hi); (refine hK.out _ _ (b3 BK436) (fun hHeld => ?_)); clear hK K; refine norm_ (a' := ?_) ?_ ?_; rotate_left
    · show Act.put _ (some 10) _ = _; simp only [Act.put, lB, lZ, lS, i64_w, i32_w]; rfl
    refine pu (i := 2) (N := 11) #[T,T,T,F,F,F,F,F,F,F,F,F,F,F,F,F] HT_ ?_; refine pu (i := 3) (N := 12) #[T,T,T,T,F,F,F,F,F,F,F,F,F,F,F,F] HT_ ?_; refine pu (i := 4) (N := 13) #[T,T,T,T,T,F,F,F,F,F,F,F,F,F,F,F] HT_ ?_; (refine take_ (i := 5) (N := some 14) (v := ?_) (a' := ?_) #[T,T,T,T,T,T,F,F,F,F,F,F,F,F,F,F] rfl rfl (take_ofW HT_.out HW_.out (by kernel_rfl)) (fun _ _ _ h => h) (Or.inl ⟨by rfl, ?_⟩) hHeld ?_ ?_); rotate_left
    · rintro w' ⟨s0, s1⟩; go_simp; (with_reducible rfl)
    rotate_left
    · simp only [Act.put, lB, lZ, lS, i64_w, i32_w]; rfl
    refine pu (i := 6) (N := 15) #[T,T,T,T,T,T,T,F,F,F,F,F,F,F,F,F] HT_ ?_; (refine one_ (i := 7) (N := some 16) #[T,T,T,T,T,T,T,T,F,F,F,F,F,F,F,F] rfl rfl (one_of HT_.out (by kernel_rfl)) (by decide) (fun K hK => ?_)); (refine gO Try.func87 #[] ?_); (with_reducible refine (spec_l04Sectors.calls  t438 _ A6.out).mono ?_); rintro e w' ⟨rfl, ⟨nd, rfl⟩⟩; refine ⟨_, rfl, ?_⟩; (refine hK.out _ _ (b3 BK436) (fun hHeld => ?_)); clear hK K; refine norm_ (a' := ?_) ?_ ?_; rotate_left
    · show Act.put _ (some 16) _ = _; simp only [Act.put, lB, lZ, lS, i64_w, i32_w]; rfl
    refine pu (i := 8) (N := 17) #[T,T,T,T,T,T,T,T,T,F,F,F,F,F,F,F] HT_ ?_; refine pu (i := 9) (N := 18) #[T,T,T,T,T,T,T,T,T,T,F,F,F,F,F,F] HT_ ?_; refine pu (i := 10) (N := 19) #[T,T,T,T,T,T,T,T,T,T,T,F,F,F,F,F] HT_ ?_; (refine pure_ (i := 11) (N := some 20) (v := undef) (a' := ?_) #[T,T,T,T,T,T,T,T,T,T,T,T,F,F,F,F] rfl rfl (any_of HT_.out (by kernel_rfl)) (fun _ _ _ h => h) (Or.inr ⟨by rfl, rfl⟩) ?_ ?_); rotate_left
    · simp only [Act.put, lB, lZ, lS, i64_w, i32_w]; rfl
    (refine pure_ (i := 12) (N := some 21) (v := undef) (a' := ?_) #[T,T,T,T,T,T,T,T,T,T,T,T,T,F,F,F] rfl rfl (any_of HT_.out (by kernel_rfl)) (fun _ _ _ h => h) (Or.inr ⟨by rfl, rfl⟩) ?_ ?_); rotate_left
    · simp only [Act.put, lB, lZ, lS, i64_w, i32_w]; rfl
    (refine pure_ (i := 13) (N := some 22) (v := undef) (a' := ?_) #[T,T,T,T,T,T,T,T,T,T,T,T,T,T,F,F] rfl rfl (any_of HT_.out (by kernel_rfl)) (fun _ _ _ h => h) (Or.inr ⟨by rfl, rfl⟩) ?_ ?_); rotate_left
    · simp only [Act.put, lB, lZ, lS, i64_w, i32_w]; rfl
    (refine pure_ (i := 14) (N := some 23) (v := undef) (a' := ?_) #[T,T,T,T,T,T,T,T,T,T,T,T,T,T,T,F] rfl rfl (any_of HT_.out (by kernel_rfl)) (fun _ _ _ h => h) (Or.inr ⟨by rfl, rfl⟩) ?_ ?_); rotate_left
    · simp only [Act.put, lB, lZ, lS, i64_w, i32_w]; rfl
    refine pu (i := 15) (N := 24) #[T,T,T,T,T,T,T,T,T,T,T,T,T,T,T,T] HT_ ?_; (refine done_ (done_of HT_.out (by kernel_rfl)) ?_); (try go_wp2); go_meet; (case rel => exact ⟨_, (true), rS, H', ⟨lE⟩, ⟨bk BK436.out⟩, ⟨bB⟩⟩)
   replace c5 := Bool.eq_false_iff.mpr c5; subst c5; (have H1 : (spec_LogOk.j0 k true l0_0 l0_1) = some r := by rw [if_neg (show ¬ (false = true) by decide)] at H; exact H); clear H; have H := H1; clear H1; have H' := Aside0.mk H; clear H; (try go_wp2); replace BK436 := Aside0.mk (blk_drew BK436.out); replace HB := Aside0.mk (below_drew1 HB.out); (refine start_ (n := 16) (S := fun w' => w'.cell? ⟨gb436, 0, none⟩ = some (.slice A0_0 l0_0.length c0_0) ∧ w'.cell? ⟨gb436, 1, none⟩ = some (.slice A0_1 l0_1.length c0_1)) (ds := []) #[F,F,F,F,F,F,F,F,F,F,F,F,F,F,F,F] (by kernel_rfl) rfl rfl (b3 BK436) (fun hHeld => ?_); refine with_tabW spec_LogOk.tab1 spec_LogOk.bits1 (fun HT_ HW_ => ?_)); generalize w3.drew = w12 at BK436 HB hHeld ⊢; (refine take_ (i := 0) (N := some 9) (v := ?_) (a' := ?_) #[T,F,F,F,F,F,F,F,F,F,F,F,F,F,F,F] rfl rfl (take_ofW HT_.out HW_.out (by kernel_rfl)) (fun _ _ _ h => h) (Or.inl ⟨by rfl, ?_⟩) hHeld ?_ ?_); rotate_left
   · rintro w' ⟨s0, s1⟩; go_simp; (with_reducible rfl)
   rotate_left
   · simp only [Act.put, lB, lZ, lS, i64_w, i32_w]; rfl
   (refine one_ (i := 1) (N := some 10) #[T,T,F,F,F,F,F,F,F,F,F,F,F,F,F,F] rfl rfl (one_of HT_.out (by kernel_rfl)) (by decide) (fun K hK => ?_)); (refine gO Try.func57 #[.agg #[.slice A0_0 l0_0.length c0_0, .slice A0_1 l0_1.length c0_1]] ?_); (with_reducible refine (spec_DiskOk.calls k _ _ l0_0 _ _ l0_1 false _ ?side1 HC0_0.out ?side3 HC0_1.out A4.out).mono ?_); (case side1 => exact cB HR0_0); (case side3 => exact cB HR0_1); rintro e w13 ⟨rfl, hb⟩; refine ⟨_, rfl, ?_⟩; replace BK436 := kB BK436 hb; replace HB := bS hb; (try clear hb); (try clear hb2); (try clear hk); (try clear hi); (refine hK.out _ _ (b3 BK436) (fun hHeld => ?_)); clear hK K; refine norm_ (a' := ?_) ?_ ?_; rotate_left
   · show Act.put _ (some 10) _ = _; simp only [Act.put, lB, lZ, lS, i64_w, i32_w]; rfl
   refine pu (i := 2) (N := 11) #[T,T,T,F,F,F,F,F,F,F,F,F,F,F,F,F] HT_ ?_; refine pu (i := 3) (N := 12) #[T,T,T,T,F,F,F,F,F,F,F,F,F,F,F,F] HT_ ?_; (refine pure_ (i := 4) (N := some 13) (v := undef) (a' := ?_) #[T,T,T,T,T,F,F,F,F,F,F,F,F,F,F,F] rfl rfl (any_of HT_.out (by kernel_rfl)) (fun _ _ _ h => h) (Or.inr ⟨by rfl, rfl⟩) ?_ ?_); rotate_left
   · simp only [Act.put, lB, lZ, lS, i64_w, i32_w]; rfl
   (refine pure_ (i := 5) (N := some 14) (v := undef) (a' := ?_) #[T,T,T,T,T,T,F,F,F,F,F,F,F,F,F,F] rfl rfl (any_of HT_.out (by kernel_rfl)) (fun _ _ _ h => h) (Or.inr ⟨by rfl, rfl⟩) ?_ ?_); rotate_left
   · simp only [Act.put, lB, lZ, lS, i64_w, i32_w]; rfl
   (refine pure_ (i := 6) (N := some 15) (v := undef) (a' := ?_) #[T,T,T,T,T,T,T,F,F,F,F,F,F,F,F,F] rfl rfl (any_of HT_.out (by kernel_rfl)) (fun _ _ _ h => h) (Or.inr ⟨by rfl, rfl⟩) ?_ ?_); rotate_left
   · simp only [Act.put, lB, lZ, lS, i64_w, i32_w]; rfl
   (refine pure_ (i := 7) (N := some 16) (v := undef) (a' := ?_) #[T,T,T,T,T,T,T,T,F,F,F,F,F,F,F,F] rfl rfl (any_of HT_.out (by kernel_rfl)) (fun _ _ _ h => h) (Or.inr ⟨by rfl, rfl⟩) ?_ ?_); rotate_left
   · simp only [Act.put, lB, lZ, lS, i64_w, i32_w]; rfl
   (refine pure_ (i := 8) (N := some 17) (v := undef) (a' := ?_) #[T,T,T,T,T,T,T,T,T,F,F,F,F,F,F,F] rfl rfl (any_of HT_.out (by kernel_rfl)) (fun _ _ _ h => h) (Or.inr ⟨by rfl, rfl⟩) ?_ ?_); rotate_left
   · simp only [Act.put, lB, lZ, lS, i64_w, i32_w]; rfl
   refine pu (i := 9) (N := 18) #[T,T,T,T,T,T,T,T,T,T,F,F,F,F,F,F] HT_ ?_; refine pu (i := 10) (N := 19) #[T,T,T,T,T,T,T,T,T,T,T,F,F,F,F,F] HT_ ?_; (refine pure_ (i := 11) (N := some 20) (v := undef) (a' := ?_) #[T,T,T,T,T,T,T,T,T,T,T,T,F,F,F,F] rfl rfl (any_of HT_.out (by kernel_rfl)) (fun _ _ _ h => h) (Or.inr ⟨by rfl, rfl⟩) ?_ ?_); rotate_left
   · simp only [Act.put, lB, lZ, lS, i64_w, i32_w]; rfl
   (refine pure_ (i := 12) (N := some 21) (v := undef) (a' := ?_) #[T,T,T,T,T,T,T,T,T,T,T,T,T,F,F,F] rfl rfl (any_of HT_.out (by kernel_rfl)) (fun _ _ _ h => h) (Or.inr ⟨by rfl, rfl⟩) ?_ ?_); rotate_left
   · simp only [Act.put, lB, lZ, lS, i64_w, i32_w]; rfl
   (refine pure_ (i := 13) (N := some 22) (v := undef) (a' := ?_) #[T,T,T,T,T,T,T,T,T,T,T,T,T,T,F,F] rfl rfl (any_of HT_.out (by kernel_rfl)) (fun _ _ _ h => h) (Or.inr ⟨by rfl, rfl⟩) ?_ ?_); rotate_left
   · simp only [Act.put, lB, lZ, lS, i64_w, i32_w]; rfl
   (refine pure_ (i := 14) (N := some 23) (v := undef) (a' := ?_) #[T,T,T,T,T,T,T,T,T,T,T,T,T,T,T,F] rfl rfl (any_of HT_.out (by kernel_rfl)) (fun _ _ _ h => h) (Or.inr ⟨by rfl, rfl⟩) ?_ ?_); rotate_left
   · simp only [Act.put, lB, lZ, lS, i64_w, i32_w]; rfl
   refine pu (i := 15) (N := 24) #[T,T,T,T,T,T,T,T,T,T,T,T,T,T,T,T] HT_ ?_; (refine done_ (done_of HT_.out (by kernel_rfl)) ?_); (try go_wp2); go_meet; (case rel => exact ⟨_, (true), rS, H', ⟨lE⟩, ⟨bk BK436.out⟩, ⟨bB⟩⟩)
  case rest =>
   clear HC2; (try clear p2); (try clear c3); (try clear c5); (try clear c7); (try clear c7b0); (try clear c7b1); (try clear c8); obtain ⟨kq, x24_1, rfl, HA, HJ1, BK436, HB⟩ := hcut
   cases kq with
   | zero => exact absurd HA.out (by simp [spec_LogOk.j0])
   | succ kj1 =>
    have H := HA.out; clear HA; simp only [spec_LogOk.j0] at H; by_cases c14 : x24_1 = true
    · subst c14; (have H1 : (some false) = some r := by rw [if_pos rfl] at H; exact H); clear H; have H := H1; clear H1; obtain rfl := Option.some.inj H; go_wp2; go_ret; exact ⟨eF, bB⟩
    replace c14 := Bool.eq_false_iff.mpr c14; subst c14; (have H1 : ((spec_ReadArea.f kj1 l0_0 l0_1 0).bind fun bt439 => ((spec_ReadArea.f kj1 l0_0 l0_1 1).bind fun bt444 => (if bt439.2.2 = true then (some bt444.2.2) else (some false)))) = some r := by rw [if_neg (show ¬ (false = true) by decide)] at H; exact H); clear H; have H := H1; clear H1; replace H := oB H; obtain ⟨⟨t439, t442, t443⟩, A150, H⟩ := H; (replace H : ((spec_ReadArea.f kj1 l0_0 l0_1 1).bind fun bt444 => (if t443 = true then (some bt444.2.2) else (some false))) = some r := H); have A15 := Aside0.mk A150; clear A150; replace H := oB H; obtain ⟨⟨t444, t447, t448⟩, A160, H⟩ := H; replace H : (if t443 = true then (some t448) else (some false)) = some r := H; have A16 := Aside0.mk A160; clear A160; by_cases c17 : t443 = true
    · subst c17; (have H1 : (some t448) = some r := by rw [if_pos rfl] at H; exact H); clear H; have H := H1; clear H1; obtain rfl := Option.some.inj H; obtain ⟨hcz18_0, hcz18_1, hfz18_0, hfz18_1⟩ := b2 BK436; (go_wp2_with (first | ((with_reducible refine gate_callee (f := 29) rfl ?_); refine gL (some 27) Try.func29 #[.agg #[.slice A0_0 l0_0.length c0_0, .slice A0_1 l0_1.length c0_1], .int .i64 0] ?_; (with_reducible refine (spec_ReadArea.calls kj1 _ _ l0_0 _ _ l0_1 0 t439 t442 true _ ?side1 HC0_0.out ?side3 HC0_1.out A15.out).mono ?_); (case side1 => exact cB HR0_0); (case side3 => exact cB HR0_1); rintro e w19 ⟨v440, rfl, ho0, hb⟩; refine ⟨_, rfl, ?_⟩; have HO441 := rL ho0; replace BK436 := kB BK436 hb; replace HB := bS hb; (try clear hb); (try clear hb2); (try clear hk); (try clear hi); (try clear ho0); obtain ⟨hcz20_0, hcz20_1, hfz20_0, hfz20_1⟩ := b2 BK436) | ((with_reducible refine gate_callee (f := 29) rfl ?_); refine gL (some 33) Try.func29 #[.agg #[.slice A0_0 l0_0.length c0_0, .slice A0_1 l0_1.length c0_1], .int .i64 1] ?_; (with_reducible refine (spec_ReadArea.calls kj1 _ _ l0_0 _ _ l0_1 1 t444 t447 t448 _ ?side1 HC0_0.out ?side3 HC0_1.out A16.out).mono ?_); (case side1 => exact cB HR0_0); (case side3 => exact cB HR0_1); rintro e w21 ⟨v445, rfl, ho0, hb⟩; refine ⟨_, rfl, ?_⟩; have HO446 := rN ho0 HO441; replace HO441 := rE HO441 ho0 hb; replace BK436 := kB BK436 hb; replace HB := bS hb; (try clear hb); (try clear hb2); (try clear hk); (try clear hi); (try clear ho0)))); go_ret; exact ⟨eF, bB⟩
    replace c17 := Bool.eq_false_iff.mpr c17; subst c17; (have H1 : (some false) = some r := by rw [if_neg (show ¬ (false = true) by decide)] at H; exact H); clear H; have H := H1; clear H1; obtain rfl := Option.some.inj H; obtain ⟨hcz22_0, hcz22_1, hfz22_0, hfz22_1⟩ := b2 BK436; (go_wp2_with (first | ((with_reducible refine gate_callee (f := 29) rfl ?_); refine gL (some 27) Try.func29 #[.agg #[.slice A0_0 l0_0.length c0_0, .slice A0_1 l0_1.length c0_1], .int .i64 0] ?_; (with_reducible refine (spec_ReadArea.calls kj1 _ _ l0_0 _ _ l0_1 0 t439 t442 false _ ?side1 HC0_0.out ?side3 HC0_1.out A15.out).mono ?_); (case side1 => exact cB HR0_0); (case side3 => exact cB HR0_1); rintro e w23 ⟨v440, rfl, ho0, hb⟩; refine ⟨_, rfl, ?_⟩; have HO441 := rL ho0; replace BK436 := kB BK436 hb; replace HB := bS hb; (try clear hb); (try clear hb2); (try clear hk); (try clear hi); (try clear ho0); obtain ⟨hcz24_0, hcz24_1, hfz24_0, hfz24_1⟩ := b2 BK436) | ((with_reducible refine gate_callee (f := 29) rfl ?_); refine gL (some 33) Try.func29 #[.agg #[.slice A0_0 l0_0.length c0_0, .slice A0_1 l0_1.length c0_1], .int .i64 1] ?_; (with_reducible refine (spec_ReadArea.calls kj1 _ _ l0_0 _ _ l0_1 1 t444 t447 t448 _ ?side1 HC0_0.out ?side3 HC0_1.out A16.out).mono ?_); (case side1 => exact cB HR0_0); (case side3 => exact cB HR0_1); rintro e w25 ⟨v445, rfl, ho0, hb⟩; refine ⟨_, rfl, ?_⟩; have HO446 := rN ho0 HO441; replace HO441 := rE HO441 ho0 hb; replace BK436 := kB BK436 hb; replace HB := bS hb; (try clear hb); (try clear hb2); (try clear hk); (try clear hi); (try clear ho0)))); go_ret; exact ⟨eF, bB⟩

end Go.Proofs.Ytlmnbgblmackkaa.QFnExactPutRecord
