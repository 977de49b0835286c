/- The functions that a law uses, as Lean functions, and proofs that the Go code comes to just what they say: written by a program of this session over the translation. Conditions: as each theorem states. -/
import Derived.Test.YtlmnbgblmackkaaQFnExactLogNewx0
import Derived.Test.YtlmnbgblmackkaaQFnExactLogNewx2
namespace Go.Proofs.Ytlmnbgblmackkaa.QFnExactLogNew
open Go.RowKit Go.Proofs.Ytlmnbgblmackkaa.Sf Go.Proofs.YtlmnbgblmackkaaW.PrintWords Go.Proofs.YtlmnbgblmackkaaW.PrintLast Go.Proofs.YtlmnbgblmackkaaW.PrintMore Go.Proofs.YtlmnbgblmackkaaW.Sh
attribute [local go_sem] max2_int min2_int max_two min_two max_three min_three max_four min_four   -- for this text's walks alone
set_option linter.unusedVariables false
set_option linter.unusedSimpArgs false

/-! ### impl_DiskNew: function 55 -/
def impl_DiskNew.l0 : Nat → Int → Int → List ByteArray → Option (List ByteArray × (List (S88)) × Bool)
  | 0, _, _, _ => none
  | k + 1, x0, x5, x136000 => if x5 < x0 then ((strings_Repeat.f (⟨#[0]⟩ : ByteArray) 64).bind fun t136 => (if x136000.length < 8796093022208 then (impl_DiskNew.l0 k x0 (wrap64 (x5 + 1)) (x136000 ++ [t136])) else (none))) else (some (x136000, ([] : List (S88)), true))
def impl_DiskNew.f (k : Nat) (a0 : Int) : Option (List ByteArray × (List (S88)) × Bool) := (impl_within.f a0 1 100).bind fun t134 => (if t134 = true then (impl_DiskNew.l0 k a0 0 ([] : List ByteArray)) else (some (([] : List ByteArray), ([] : List (S88)), false)))
theorem impl_DiskNew.mono_l : ∀ k, (∀ y0 y1 y2, LeO (impl_DiskNew.l0 k y0 y1 y2) (impl_DiskNew.l0 (k + 1) y0 y1 y2))
  | 0 => fun _ _ _ r h => by simp [impl_DiskNew.l0] at h
  | k + 1 => by
    have ih0 := impl_DiskNew.mono_l k
    · intro y0 y1 y2
      unfold impl_DiskNew.l0
      repeat' first
      | (with_reducible exact ih0 _ _ _)
      | (with_reducible exact LeO.refl _)
      | (with_reducible exact LeO.none _)
      | (with_reducible refine LeO.ite ?_ ?_)
      | (with_reducible refine LeO.bind ?_ (fun _ => ?_))
      | exact ih0 _ _ _
      | exact LeO.none _
      | refine LeO.ite ?_ ?_
      | refine LeO.bind ?_ (fun _ => ?_)
theorem impl_DiskNew.mono : ∀ a0 k, LeO (impl_DiskNew.f k a0) (impl_DiskNew.f (k + 1) a0) := by
  intro a0 k; have ih0 := impl_DiskNew.mono_l k; unfold impl_DiskNew.f; (repeat' first | (with_reducible exact ih0 _ _ _) | (with_reducible exact LeO.refl _) | (with_reducible exact LeO.none _) | (with_reducible refine LeO.ite ?_ ?_) | (with_reducible refine LeO.bind ?_ (fun _ => ?_)) | exact ih0 _ _ _ | exact LeO.none _ | refine LeO.ite ?_ ?_ | refine LeO.bind ?_ (fun _ => ?_))
set_option maxHeartbeats 8000000 in
set_option maxRecDepth 100000 in
theorem impl_DiskNew.calls (k : Nat) (a0 : Int) (r1 : List ByteArray) (r2 : List (S88)) (r3 : Bool) (w : World) (h : impl_DiskNew.f k a0 = some (r1, r2, r3)) :
    Calls Try.prog 55 #[.int .i64 a0] w fun e w' => ∃ v0_ v1_ : Value, e = .returned (.tuple #[.agg #[v0_, v1_], .bool r3]) ∧ Kd.R Kd.string 9 w' w.heap.size (fun _ => True) v0_ r1 ∧ Kd.R k88 88 w' w.heap.size (fun _ => True) v1_ r2 ∧ Below w.heap.size w w' := by
  have hu30 := Try.underlying30; have HB := Aside0.mk (Below.refl w.heap.size w); (have H : ((impl_within.f a0 1 100).bind fun t134 => (if t134 = true then (impl_DiskNew.l0 k a0 0 ([] : List ByteArray)) else (some (([] : List ByteArray), ([] : List (S88)), false)))) = some (r1, r2, r3) := h); clear h; replace H := oB H; obtain ⟨t134, A20, H⟩ := H; replace H : (if t134 = true then (impl_DiskNew.l0 k a0 0 ([] : List ByteArray)) else (some (([] : List ByteArray), ([] : List (S88)), false))) = some (r1, r2, r3) := H; have A2 := Aside0.mk A20; clear A20; by_cases c3 : t134 = true
  ·
   subst c3; (have H1 : (impl_DiskNew.l0 k a0 0 ([] : List ByteArray)) = some (r1, r2, r3) := by rw [if_pos rfl] at H; exact H); clear H; have H := H1; clear H1; have H' := Aside0.mk H; clear H; go_enter Try.func55, Try.ntmps55; (go_wp2_with (first | ((with_reducible refine gate_dst (N := 2) rfl ?_); refine bE (N := 2) (cs := #[.slice none 0 0, .slice none 0 0]) (t := 30) ?_; intro gb133 hg w4 hbox hb; have BK133 := Aside0.mk (hbox); have GW133 := gW hg; have GE133 := GW133; replace HB := bS hb; clear hb hbox hg) | ((with_reducible refine gate_callee (f := 93) rfl ?_); refine gL (some 7) Try.func93 #[.int .i64 a0, .int .i64 1, .int .i64 100] ?_; (with_reducible refine (impl_within.calls a0 1 100 true _ A2.out).mono ?_); rintro e w' ⟨rfl, ⟨nd, rfl⟩⟩; refine ⟨_, rfl, ?_⟩) | ((with_reducible refine gate_dst (N := 4) rfl ?_); refine bE (N := 4) (cs := #[.slice none 0 0, .slice none 0 0]) (t := 30) ?_; intro gb135 hg w5 hbox hb; have BK135 := Aside0.mk (hbox); have GW135 := gW hg; have GE135 := GW135; have NB133_135 := nL BK133 hg; have NB135_133 := nG BK133 hg; replace BK133 := kB BK133 hb; replace HB := bS hb; clear hb hbox hg))); (go_loopg [5] k (fun kq v5 w' => ∃ (x5_1 : Int) (x136000_1 : List ByteArray) (u136000 : Value), v5 = .int .i64 x5_1 ∧ Aside0 (impl_DiskNew.l0 kq a0 x5_1 x136000_1 = some (r1, r2, r3)) ∧ Aside0 (kq ≤ k) ∧ Aside0 (Kd.R Kd.string 9 w' w.heap.size (fun _ => True) u136000 x136000_1) ∧ Aside0 (w'.heap[gb133]? = some (.cells #[(.slice none 0 0), (.slice none 0 0)] 30 (0, 0))) ∧ Aside0 (w'.heap[gb135]? = some (.cells #[u136000, (.slice none 0 0)] 30 (0, 0))) ∧ Aside0 (Below w.heap.size w w'))); (case atStart => exact ⟨(0), (([] : List ByteArray)), (.slice none 0 0), rS, H', ⟨Nat.le_refl _⟩, ⟨by first | exact Kd.R_nil _ _ _ _ _ | exact Kd.N_nil _ _ _ _ _ | exact Kd.V_nil _ _ _ _ _ | exact Kd.Q_nil _ _ _ _ _ | exact Kd.S_nil _ _ _ _ _⟩, ⟨bk BK133.out⟩, ⟨bk BK135.out⟩, ⟨bB⟩⟩)
   case round =>
    clear H'; (try clear p2); (try clear c3); (try clear c5); obtain ⟨x5_1, x136000_1, u136000, rfl, HA, HK1, HO_136000, BK133, BK135, HB⟩ := hrel
    cases gk with
    | zero => exact absurd HA.out (by simp [impl_DiskNew.l0])
    | succ k1 =>
     have H := HA.out; clear HA; simp only [impl_DiskNew.l0] at H; by_cases c6 : x5_1 < a0
     ·
      rw [if_pos c6] at H; have c6b0 : decide (x5_1 < a0) = true := decide_eq_true c6; clear c6; replace H := oB H; obtain ⟨t136, A70, H⟩ := H; replace H : (if x136000_1.length < 8796093022208 then (impl_DiskNew.l0 k1 a0 (wrap64 (x5_1 + 1)) (x136000_1 ++ [t136])) else (none)) = some (r1, r2, r3) := H; have A7 := Aside0.mk A70; clear A70; by_cases c8 : x136000_1.length < 8796093022208
      ·
       rw [if_pos c8] at H; have LMc8 := Aside0.mk c8; clear c8; obtain ⟨y137, hy137⟩ : ∃ y_ : List ByteArray, y_ = (x136000_1 ++ [t136]) := ⟨_, rfl⟩; (replace H : (impl_DiskNew.l0 k1 a0 (wrap64 (x5_1 + 1)) y137) = some (r1, r2, r3) := by first | (rw [hy137]; with_reducible exact H) | (have H2_ := (Option.bind_some _ _).symm.trans H; rw [hy137]; with_reducible exact H2_) | (have H2_ := (Option.bind_some _ _).symm.trans H; with_reducible exact H2_) | with_reducible exact H | (rw [hy137]; exact H) | exact H); have Ny137 := Aside0.mk hy137; clear hy137; have H' := Aside0.mk H; clear H; (try go_wp2); replace HO_136000 := Aside0.mk (Kd.R_drew HO_136000.out); replace BK133 := Aside0.mk (blk_drew BK133.out); replace BK135 := Aside0.mk (blk_drew BK135.out); replace HB := Aside0.mk (below_drew1 HB.out); (refine start_ (n := 7) (S := fun w' => w'.cell? ⟨gb135, 0, none⟩ = some (u136000) ∧ w'.cell? ⟨gb135, 1, none⟩ = some (.slice none 0 0)) (ds := [6]) #[F,F,F,F,F,F,F] (by kernel_rfl) rfl rfl (b3 BK135) (fun hHeld => ?_)); generalize wr.drew = w9 at HO_136000 BK133 BK135 HB hHeld ⊢; (refine pure_ (i := 0) (N := some 15) (v := ?_) (a' := ?_) #[T,F,F,F,F,F,F] rfl rfl (by kernel_rfl) (fun _ _ _ h => h) (Or.inl ⟨by rfl, ?_⟩) ?_ ?_); rotate_left
       · intro w'; go_simp; (with_reducible rfl)
       rotate_left
       · simp only [Act.put, lB, lZ, lS, i64_w, i32_w]; rfl
       (refine take_ (i := 1) (N := some 16) (v := ?_) (a' := ?_) #[T,T,F,F,F,F,F] rfl rfl (by kernel_rfl) (fun _ _ _ h => h) (Or.inl ⟨by rfl, ?_⟩) hHeld ?_ ?_); rotate_left
       · rintro w' ⟨s0, s1⟩; go_simp; (with_reducible rfl)
       rotate_left
       · simp only [Act.put, lB, lZ, lS, i64_w, i32_w]; rfl
       (refine one_ (i := 2) (N := some 17) #[T,T,T,F,F,F,F] rfl rfl (by kernel_rfl) (by decide) (fun K hK => ?_)); (refine gO Try.func95 #[.string (⟨#[0]⟩ : ByteArray), .int .i64 64] ?_); (with_reducible refine (strings_Repeat.calls (⟨#[0]⟩ : ByteArray) 64 t136 _ A7.out).mono ?_); rintro e w10 ⟨rfl, hb⟩; refine ⟨_, rfl, ?_⟩; replace HO_136000 := rB HO_136000 hb; replace BK133 := kB BK133 hb; replace BK135 := kB BK135 hb; replace HB := bS hb; (try clear hb); (try clear hb2); (try clear hk); (try clear hi); (refine hK.out _ _ (b3 BK135) (fun hHeld => ?_)); clear hK K; refine norm_ (a' := ?_) ?_ ?_; rotate_left
       · show Act.put _ (some 17) _ = _; simp only [Act.put, lB, lZ, lS, i64_w, i32_w]; rfl
       (refine one_ (i := 3) (N := some 18) #[T,T,T,T,F,F,F] rfl rfl (by kernel_rfl) (by decide) (fun K hK => ?_)); (refine value_ (w1 := ?_) (v := ?_) (by rfl) rfl ?_ ?_); rotate_left 2
       ·
        go_simp; constructor
        · rfl
        rfl
       (refine hK.out _ _ ⟨(blk_cell (blk_alloc BK135.out _) 0).trans rfl, (blk_cell (blk_alloc BK135.out _) 1).trans rfl⟩ (fun hHeld => ?_)); clear hK K; refine norm_ (a' := ?_) ?_ ?_; rotate_left
       · show Act.put _ (some 18) _ = _; simp only [Act.put, lB, lZ, lS, i64_w, i32_w]; rfl
       (refine one_ (i := 4) (N := some 19) #[T,T,T,T,T,F,F] rfl rfl (by kernel_rfl) (by decide) (fun K hK => ?_)); (refine Kd.R_append_step Kd.string (w0 := w) w.heap.size (by rfl) (.tmp 16) (.tmp 18) 22 9 (.string ⟨#[]⟩) 16 rfl Try.underlying22 info9 rfl (by decide) (by omega) u136000 x136000_1 t136 [.string t136] (fun _ => True) (fun _ => False) rfl rfl ?aP (fun _ hk => hk.elim) ?aF ?aO ?aB ?aS ?aL ?_); (case aP => exact rfl); (case aB => exact bB); (case aF => exact (fun _ _ => trivial)); (case aO => exact (rk HO_136000.out)); (case aS => exact (below_size bB)); (case aL => have := LMc8.out; omega); intro v138 w11 ho hb hg hat; rw [← Ny137.out] at ho; have HO139 := Aside0.mk (ho); (replace BK133 := Aside0.mk (blk_grown (g := gb133) (o := .cells #[.slice none 0 0, .slice none 0 0] 30 (0, 0)) (bk BK133.out) hg (Kd.R_ne HO_136000.out BK133.out (by decide)))); (replace BK135 := Aside0.mk (blk_grown (g := gb135) (o := .cells #[u136000, .slice none 0 0] 30 (0, 0)) (bk BK135.out) hg (Kd.R_ne HO_136000.out BK135.out (by decide)))); replace HB := Aside0.mk (hb); clear HO_136000 ho hb hg hat; obtain ⟨Ao12, co12, eo12⟩ := Kd.R_slice HO139.out; (first | subst eo12 | (injection eo12 with f1_ f2_ f3_; have f4_ := f1_.symm; have f5_ := f3_.symm; clear f1_ f2_ f3_; subst f4_; subst f5_)); (refine hK.out _ _ (b3 BK135) (fun hHeld => ?_)); clear hK K; refine norm_ (a' := ?_) ?_ ?_; rotate_left
       · show Act.put _ (some 19) _ = _; simp only [Act.put, lB, lZ, lS, i64_w, i32_w]; rfl
       (refine pure_ (i := 5) (N := some 20) (v := ?_) (a' := ?_) #[T,T,T,T,T,T,F] rfl rfl (by kernel_rfl) (fun _ _ _ h => h) (Or.inl ⟨by rfl, ?_⟩) ?_ ?_); rotate_left
       · intro w'; go_simp; (with_reducible rfl)
       rotate_left
       · simp only [Act.put, lB, lZ, lS, i64_w, i32_w]; rfl
       (refine last_ (i := 6) (N := none) #[T,T,T,T,T,T,T] rfl rfl (by kernel_rfl) (by decide) (fun K hK => ?_)); have hs13 : w11.cell? ⟨gb135, 0, none⟩ = some (u136000) := (blk_cell BK135.out 0).trans rfl; have hfs13 := blk_frozen BK135.out 0; have hns13_0 := NB133_135.out; have hms13_0 := NB135_133.out; (refine skip_ (w1 := ?_) (by rfl) rfl ?_ ?_); rotate_left
       · go_simp; rfl
       refine hK.out _ _ ?_; clear hK K; (refine done_ (by kernel_rfl) ?_); (try go_wp2); go_roundg k1; (case measure => have := HK1.out; omega); (case rel => exact ⟨(wrap64 (x5_1 + 1)), (y137), (.slice Ao12 y137.length co12), rS, H', ⟨by have := HK1.out; omega⟩, ⟨rG HO139 BK135⟩, ⟨bk BK133.out⟩, ⟨pk BK135.out⟩, ⟨bB⟩⟩)
      rw [if_neg c8] at H; (exact absurd H (by simp))
     rw [if_neg c6] at H; have c6b0 : decide (x5_1 < a0) = false := decide_eq_false c6; clear c6; simp only [Option.some.injEq, Prod.mk.injEq] at H; obtain ⟨rfl, rfl, rfl⟩ := H; have hnb14 := NB135_133.out; have hnc14 := NB133_135.out; obtain ⟨hcz15_0, hcz15_1, hfz15_0, hfz15_1⟩ := b2 BK135; obtain ⟨Ao16, co16, eo16⟩ := Kd.R_slice HO_136000.out; subst eo16; obtain ⟨hcz17_0, hcz17_1, hfz17_0, hfz17_1⟩ := b2 BK133; go_wp2; (refine bodyPost_ret (results_ct rfl _ _ gb133 30 #[.slice Ao16 x136000_1.length co16, .slice none 0 0] (0, 0) _ rfl (pk BK133.out) Try.underlying30 rfl (by kernel_rfl)) rfl ?_); (exact ⟨_, _, eF, rG HO_136000 BK133, by first | exact Kd.R_nil _ _ _ _ _ | exact Kd.N_nil _ _ _ _ _ | exact Kd.V_nil _ _ _ _ _ | exact Kd.Q_nil _ _ _ _ _ | exact Kd.S_nil _ _ _ _ _, bB⟩)
  replace c3 := Bool.eq_false_iff.mpr c3; subst c3; (have H1 : (some (([] : List ByteArray), ([] : List (S88)), false)) = some (r1, r2, r3) := by rw [if_neg (show ¬ (false = true) by decide)] at H; exact H); clear H; have H := H1; clear H1; simp only [Option.some.injEq, Prod.mk.injEq] at H; obtain ⟨rfl, rfl, rfl⟩ := H; go_enter Try.func55, Try.ntmps55; (go_wp2_with (first | ((with_reducible refine gate_dst (N := 2) rfl ?_); refine bE (N := 2) (cs := #[.slice none 0 0, .slice none 0 0]) (t := 30) ?_; intro gb133 hg w18 hbox hb; have BK133 := Aside0.mk (hbox); have GW133 := gW hg; have GE133 := GW133; replace HB := bS hb; clear hb hbox hg) | ((with_reducible refine gate_callee (f := 93) rfl ?_); refine gL (some 7) Try.func93 #[.int .i64 a0, .int .i64 1, .int .i64 100] ?_; (with_reducible refine (impl_within.calls a0 1 100 false _ A2.out).mono ?_); rintro e w' ⟨rfl, ⟨nd, rfl⟩⟩; refine ⟨_, rfl, ?_⟩; (try (rw [drewN_self w18]; generalize hq_ : World.drewN w18 _ = w18; have n0_ : Aside0 (w18.heap[gb133]? = some (.cells #[.slice none 0 0, .slice none 0 0] 30 (0, 0))) := ⟨by rw [← hq_]; exact (bk BK133.out)⟩; have n1_ : Aside0 (Below w.heap.size w w18) := ⟨by rw [← hq_]; exact bB⟩; clear BK133 HB hq_; have BK133 := n0_; have HB := n1_; clear n0_ n1_)); obtain ⟨hcz19_0, hcz19_1, hfz19_0, hfz19_1⟩ := b2 BK133))); (refine bodyPost_ret (results_ct rfl _ _ gb133 30 #[.slice none 0 0, .slice none 0 0] (0, 0) _ rfl (pk BK133.out) Try.underlying30 rfl (by kernel_rfl)) rfl ?_); (exact ⟨_, _, eF, by first | exact Kd.R_nil _ _ _ _ _ | exact Kd.N_nil _ _ _ _ _ | exact Kd.V_nil _ _ _ _ _ | exact Kd.Q_nil _ _ _ _ _ | exact Kd.S_nil _ _ _ _ _, by first | exact Kd.R_nil _ _ _ _ _ | exact Kd.N_nil _ _ _ _ _ | exact Kd.V_nil _ _ _ _ _ | exact Kd.Q_nil _ _ _ _ _ | exact Kd.S_nil _ _ _ _ _, bB⟩)

/-! ### impl_LogNew: function 45 -/
def impl_LogNew.f (k : Nat)  : Option (List ByteArray × (List (S88))) := (impl_DiskNew.f k 97).bind fun bt141 => (some (bt141.1, bt141.2.1))
theorem impl_LogNew.mono : ∀ k, LeO (impl_LogNew.f k ) (impl_LogNew.f (k + 1) ) := by
  intro  k; unfold impl_LogNew.f; (repeat' first | (with_reducible exact impl_DiskNew.mono _ _) | (with_reducible exact LeO.refl _) | (with_reducible exact LeO.none _) | (with_reducible refine LeO.ite ?_ ?_) | (with_reducible refine LeO.bind ?_ (fun _ => ?_)) | exact impl_DiskNew.mono _ _ | exact LeO.none _ | refine LeO.ite ?_ ?_ | refine LeO.bind ?_ (fun _ => ?_))
set_option maxHeartbeats 8000000 in
set_option maxRecDepth 100000 in
theorem impl_LogNew.calls (k : Nat)  (r1 : List ByteArray) (r2 : List (S88)) (w : World) (h : impl_LogNew.f k  = some (r1, r2)) :
    Calls Try.prog 45 #[] w fun e w' => ∃ v0_ v1_ : Value, e = .returned (.agg #[v0_, v1_]) ∧ Kd.R Kd.string 9 w' w.heap.size (fun _ => True) v0_ r1 ∧ Kd.R k88 88 w' w.heap.size (fun _ => True) v1_ r2 ∧ Below w.heap.size w w' := by
  have hu30 := Try.underlying30; have HB := Aside0.mk (Below.refl w.heap.size w); (have H : ((impl_DiskNew.f k 97).bind fun bt141 => (some (bt141.1, bt141.2.1))) = some (r1, r2) := h); clear h; replace H := oB H; obtain ⟨⟨t141, t144, t147⟩, A10, H⟩ := H; replace H : (some (t141, t144)) = some (r1, r2) := H; have A1 := Aside0.mk A10; clear A10; simp only [Option.some.injEq, Prod.mk.injEq] at H; obtain ⟨rfl, rfl⟩ := H; go_enter Try.func45, Try.ntmps45; (go_wp2_with (first | ((with_reducible refine gate_dst (N := 0) rfl ?_); refine bE (N := 0) (cs := #[.slice none 0 0, .slice none 0 0]) (t := 30) ?_; intro gb140 hg w2 hbox hb; have BK140 := Aside0.mk (hbox); have GW140 := gW hg; have GE140 := GW140; replace HB := bS hb; clear hb hbox hg) | ((with_reducible refine gate_callee (f := 55) rfl ?_); refine gL (some 4) Try.func55 #[.int .i64 97] ?_; (with_reducible refine (impl_DiskNew.calls k 97 t141 t144 t147 _ A1.out).mono ?_); rintro e w3 ⟨v142, v145, rfl, ho0, ho1, hb⟩; refine ⟨_, rfl, ?_⟩; have HO143 := rL ho0; have HO146 := rL ho1; replace BK140 := kB BK140 hb; replace HB := bS hb; (try clear hb); (try clear hb2); (try clear hk); (try clear hi); (try clear ho0); (try clear ho1)) | ((with_reducible refine gate_dst (N := 1) rfl ?_); refine bE (N := 1) (cs := #[.slice none 0 0, .slice none 0 0]) (t := 30) ?_; intro gb148 hg w4 hbox hb; have BK148 := Aside0.mk (hbox); have GW148 := gW hg; have GE148 := GW148; have NB140_148 := nL BK140 hg; have NB148_140 := nG BK140 hg; replace HO143 := rB HO143 hb; replace HO146 := rB HO146 hb; replace BK140 := kB BK140 hb; replace HB := bS hb; clear hb hbox hg; obtain ⟨Ao5, co5, eo5⟩ := Kd.R_slice HO143.out; subst eo5; have hnb6 := NB148_140.out; have hnc6 := NB140_148.out; obtain ⟨hcz7_0, hcz7_1, hfz7_0, hfz7_1⟩ := b2 BK148; obtain ⟨Ao8, co8, eo8⟩ := Kd.R_slice HO146.out; subst eo8; obtain ⟨hcz9_0, hcz9_1, hfz9_0, hfz9_1⟩ := b2 BK140))); (refine bodyPost_ret (results_cell_row rfl _ _ gb140 30 #[.slice Ao5 t141.length co5, .slice Ao8 t144.length co8] (0, 0) _ rfl (pk BK140.out) Try.underlying30 rfl (by kernel_rfl)) rfl ?_); (exact ⟨_, _, eF, rk (Kd.R_mono (Kd.R_far (p := ⟨gb140, 1, none⟩) (Kd.R_far (p := ⟨gb140, 0, none⟩) (Kd.R_far (p := ⟨gb148, 1, none⟩) (Kd.R_far (p := ⟨gb148, 0, none⟩) (Kd.R_types (Kd.R_types HO143.out BK148.out (by decide)) BK140.out (by decide)) (fun _ hk => hk.1.2) (.slice Ao5 t141.length co5)) (fun _ hk => hk.1.2) (.slice Ao8 t144.length co8)) (fun _ hk => hk.2) (.slice Ao5 t141.length co5)) (fun _ hk => hk.2) (.slice Ao8 t144.length co8)) (fun _ hk => trivial)), rk (Kd.R_mono (Kd.R_far (p := ⟨gb140, 1, none⟩) (Kd.R_far (p := ⟨gb140, 0, none⟩) (Kd.R_far (p := ⟨gb148, 1, none⟩) (Kd.R_far (p := ⟨gb148, 0, none⟩) (Kd.R_types (Kd.R_types HO146.out BK148.out (by decide)) BK140.out (by decide)) (fun _ hk => hk.1.2) (.slice Ao5 t141.length co5)) (fun _ hk => hk.1.2) (.slice Ao8 t144.length co8)) (fun _ hk => hk.2) (.slice Ao5 t141.length co5)) (fun _ hk => hk.2) (.slice Ao8 t144.length co8)) (fun _ hk => trivial)), bB⟩)

/-! ### spec_l04Sectors: function 87 -/
def spec_l04Sectors.f  : Option (Int) := some 97
set_option maxHeartbeats 8000000 in
set_option maxRecDepth 100000 in
theorem spec_l04Sectors.calls  (r : Int) (w : World) (h : spec_l04Sectors.f  = some r) :
    Calls Try.prog 87 #[] w fun e w' => e = .returned (.int .i64 r) ∧ Drawn0 w w' := by
  have H : (some 97) = some r := h; clear h; obtain rfl := Option.some.inj H; go_enter Try.func87, Try.ntmps87; go_wp2; go_ret; (exact ⟨by first | rfl | (simp; done) | (simp [*]; done), by repeat (first | exact Drawn0.refl _ | apply Drawn0.step)⟩)

/-! ### spec_l01In: function 80 -/
def spec_l01In.f (a0 : Int) (a1 : Int) (a2 : Int) : Option (Bool) := if a0 ≥ a1 then (some (decide (a0 ≤ a2))) else (some false)
set_option maxHeartbeats 8000000 in
set_option maxRecDepth 100000 in
theorem spec_l01In.calls (a0 : Int) (a1 : Int) (a2 : Int) (r : Bool) (w : World) (h : spec_l01In.f a0 a1 a2 = some r) :
    Calls Try.prog 80 #[.int .i64 a0, .int .i64 a1, .int .i64 a2] w fun e w' => e = .returned (.bool r) ∧ Drawn0 w w' := by
  have H : (if a0 ≥ a1 then (some (decide (a0 ≤ a2))) else (some false)) = some r := h; clear h; by_cases c4 : a0 ≥ a1
  · rw [if_pos c4] at H; have c4b0 : decide (a1 ≤ a0) = true := decide_eq_true c4; clear c4; obtain rfl := Option.some.inj H; go_enter Try.func80, Try.ntmps80; go_wp2; go_ret; (exact ⟨by first | rfl | (simp; done) | (simp [*]; done), by repeat (first | exact Drawn0.refl _ | apply Drawn0.step)⟩)
  rw [if_neg c4] at H; have c4b0 : decide (a1 ≤ a0) = false := decide_eq_false c4; clear c4; obtain rfl := Option.some.inj H; go_enter Try.func80, Try.ntmps80; go_wp2; go_ret; (exact ⟨by first | rfl | (simp; done) | (simp [*]; done), by repeat (first | exact Drawn0.refl _ | apply Drawn0.step)⟩)

/-! ### spec_l01Long: function 107 -/
def spec_l01Long.l0 : Nat → Int → Int → List Int → Int → Option (ByteArray)
  | 0, _, _, _, _ => none
  | k + 1, x0, x1, x5, x6 => if x6 < x0 then (if 0 ≤ x6 then (if x6 < (x5.length : Int) then (spec_l01Long.l0 k x0 x1 (x5.set (x6 : Int).toNat x1) (wrap64 (x6 + 1))) else (none)) else (none)) else (some (strOfNums x5))
def spec_l01Long.f (k : Nat) (a0 : Int) (a1 : Int) : Option (ByteArray) := if 0 ≤ a0 then (if (a0 : Int).toNat ≤ 281474976710656 then (spec_l01Long.l0 k a0 a1 (List.replicate (a0 : Int).toNat 0) 0) else (none)) else (none)
theorem spec_l01Long.mono_l : ∀ k, (∀ y0 y1 y2 y3, LeO (spec_l01Long.l0 k y0 y1 y2 y3) (spec_l01Long.l0 (k + 1) y0 y1 y2 y3))
  | 0 => fun _ _ _ _ r h => by simp [spec_l01Long.l0] at h
  | k + 1 => by
    have ih0 := spec_l01Long.mono_l k
    · intro y0 y1 y2 y3
      unfold spec_l01Long.l0
      repeat' first
      | (with_reducible exact ih0 _ _ _ _)
      | (with_reducible exact LeO.refl _)
      | (with_reducible exact LeO.none _)
      | (with_reducible refine LeO.ite ?_ ?_)
      | (with_reducible refine LeO.bind ?_ (fun _ => ?_))
      | exact ih0 _ _ _ _
      | exact LeO.none _
      | refine LeO.ite ?_ ?_
      | refine LeO.bind ?_ (fun _ => ?_)
theorem spec_l01Long.mono : ∀ a0 a1 k, LeO (spec_l01Long.f k a0 a1) (spec_l01Long.f (k + 1) a0 a1) := by
  intro a0 a1 k; have ih0 := spec_l01Long.mono_l k; unfold spec_l01Long.f; (repeat' first | (with_reducible exact ih0 _ _ _ _) | (with_reducible exact LeO.refl _) | (with_reducible exact LeO.none _) | (with_reducible refine LeO.ite ?_ ?_) | (with_reducible refine LeO.bind ?_ (fun _ => ?_)) | exact ih0 _ _ _ _ | exact LeO.none _ | refine LeO.ite ?_ ?_ | refine LeO.bind ?_ (fun _ => ?_))
set_option maxHeartbeats 8000000 in
set_option maxRecDepth 100000 in
theorem spec_l01Long.calls (k : Nat) (a0 : Int) (a1 : Int) (r : ByteArray) (w : World) (h : spec_l01Long.f k a0 a1 = some r) :
    Calls Try.prog 107 #[.int .i64 a0, .int .u8 a1] w fun e w' => e = .returned (.string r) ∧ Below w.heap.size w w' := by
  have HB := Aside0.mk (Below.refl w.heap.size w); have H : (if 0 ≤ a0 then (if (a0 : Int).toNat ≤ 281474976710656 then (spec_l01Long.l0 k a0 a1 (List.replicate (a0 : Int).toNat 0) 0) else (none)) else (none)) = some r := h; clear h; by_cases c3 : 0 ≤ a0
  ·
   rw [if_pos c3] at H; have c3b0 := eq_true c3; have c3b1 : decide (0 ≤ a0) = true := decide_eq_true c3; clear c3; by_cases c4 : (a0 : Int).toNat ≤ 281474976710656
   ·
    rw [if_pos c4] at H; have c4b0 := eq_true c4; have c4b1 : decide ((a0 : Int).toNat ≤ 281474976710656) = true := decide_eq_true c4; clear c4; obtain ⟨y149, hy149⟩ : ∃ y_ : List Int, y_ = (List.replicate (a0 : Int).toNat 0) := ⟨_, rfl⟩; (replace H : (spec_l01Long.l0 k a0 a1 y149 0) = some r := by first | (rw [hy149]; with_reducible exact H) | (have H2_ := (Option.bind_some _ _).symm.trans H; rw [hy149]; with_reducible exact H2_) | (have H2_ := (Option.bind_some _ _).symm.trans H; with_reducible exact H2_) | with_reducible exact H | (rw [hy149]; exact H) | exact H); have Ny149 := Aside0.mk hy149; clear hy149; have H' := Aside0.mk H; clear H; go_enter Try.func107, Try.ntmps107; (go_wp2_with (first | ((with_reducible refine gate_dst (N := 8) rfl ?_); refine Kd.R_make (Kd.int .u8) _ 5 rfl (N := 8) rfl 39 _ _ rfl a0 rfl rfl Try.underlying39 (.int .u8 0) 1 info5 rfl (by decide) (by omega) 0 (ok := fun _ => True) (okp := fun _ => True) rfl (fun _ hk => hk) trivial (of_decide_eq_true (by first | (with_reducible assumption) | assumption)) (Nat.le_trans (Nat.mul_le_mul_right _ (of_decide_eq_true (by first | (with_reducible assumption) | assumption) : a0.toNat ≤ 281474976710656)) (by omega)) (Below.refl _ _) (Nat.le_refl _) ?_; intro v150 w5 ho6 hb hg_ hnew_; clear hg_ hnew_; (first | rw [← Ny149.out] at ho6 | (simp only [Int.reduceToNat] at ho6; rw [← Ny149.out] at ho6)); have HO151 := rL ho6; replace HB := bS hb; clear hb ho6))); (go_loopg [6] k (fun kq v6 w' => ∃ (x5_1 : List Int) (x6_1 : Int), v6 = .int .i64 x6_1 ∧ Aside0 (spec_l01Long.l0 kq a0 a1 x5_1 x6_1 = some r) ∧ Aside0 (kq ≤ k) ∧ Aside0 (Kd.R (Kd.int .u8) 5 w' w.heap.size (fun _ => True) v150 x5_1) ∧ Aside0 (Below w.heap.size w w'))); (case atStart => exact ⟨(y149), (0), rS, H', ⟨Nat.le_refl _⟩, ⟨rk HO151.out⟩, ⟨bB⟩⟩)
    case round =>
     clear H'; (try clear c1); (try clear p2); (try clear c3); (try clear c3b0); (try clear c3b1); (try clear c4); (try clear c4b0); (try clear c4b1); obtain ⟨x5_1, x6_1, rfl, HA, HK1, HO_5, HB⟩ := hrel
     cases gk with
     | zero => exact absurd HA.out (by simp [spec_l01Long.l0])
     | succ k1 =>
      have H := HA.out; clear HA; simp only [spec_l01Long.l0] at H; by_cases c7 : x6_1 < a0
      ·
       rw [if_pos c7] at H; have c7b0 : decide (x6_1 < a0) = true := decide_eq_true c7; clear c7; by_cases c8 : 0 ≤ x6_1
       ·
        rw [if_pos c8] at H; have c8b0 : decide (0 ≤ x6_1) = true := decide_eq_true c8; clear c8; by_cases c9 : x6_1 < (x5_1.length : Int)
        · rw [if_pos c9] at H; have c9b0 : decide (x6_1 < (x5_1.length : Int)) = true := decide_eq_true c9; clear c9; obtain ⟨y152, hy152⟩ : ∃ y_ : List Int, y_ = (x5_1.set (x6_1 : Int).toNat a1) := ⟨_, rfl⟩; (replace H : (spec_l01Long.l0 k1 a0 a1 y152 (wrap64 (x6_1 + 1))) = some r := by first | (rw [hy152]; with_reducible exact H) | (have H2_ := (Option.bind_some _ _).symm.trans H; rw [hy152]; with_reducible exact H2_) | (have H2_ := (Option.bind_some _ _).symm.trans H; with_reducible exact H2_) | with_reducible exact H | (rw [hy152]; exact H) | exact H); have Ny152 := Aside0.mk hy152; clear hy152; have H' := Aside0.mk H; clear H; (have p10 : 0 ≤ (x6_1 : Int) := of_decide_eq_true (by first | (with_reducible assumption) | assumption)); (have q10 : (x6_1 : Int) < ((x5_1.length : Int) : Int) := of_decide_eq_true (by first | (with_reducible assumption) | assumption)); (obtain ⟨go10, co10, eo10, gb10, gl10, cl10, HG10⟩ := Kd.R_form HO_5.out (by omega)); (first | cases eo10 | (injection eo10 with ea_ en_ ec_; (first | subst ea_ | (injection ea_ with ea_; subst ea_)); subst ec_; clear en_)); have GB10 := Aside0.mk gb10; have GG10 := Aside0.mk HG10; clear gb10 gl10 HG10; obtain ⟨hx10_0, hf10_0⟩ := Kd.R_celln 0 HO_5.out (x6_1 : Int) p10 q10; replace p10 := eq_true p10; replace q10 := eq_true q10; have HP11 := Kd.R_putg HO_5.out (x6_1 : Int) a1; (go_wp2_with (first | ((with_reducible refine gate_store (t := 5) (p := 17) rfl ?_); refine store_event (t := 5) (p := 17) (v := ?vo_w12) (w1 := (wr.setCell ⟨go10, (x6_1 : Int).toNat, none⟩ (.int .u8 a1))) ?hg ?ho ?hn ?hr ?_; (case ho => rfl); (case hg => rfl); (case hn => rfl); (case hr => first | (go_simp; done) | (go_simp; rfl)); intro w12 hw; have hg : wr.grownBy w12 (some go10) := (by rw [hw]; exact HP11.2); have hp_ : Kd.R (Kd.int .u8) 5 w12 w.heap.size (fun _ => True) (.slice (some ⟨go10, 0, none⟩) x5_1.length co10) y152 := (by rw [hw, Ny152.out]; exact HP11.1); clear HP11; replace HO_5 := Aside0.mk (hp_); replace HB := Aside0.mk ((by rw [hw]; exact below_set (HB.out) GB10.out : Below w.heap.size w w12)); clear hg hw hp_))); go_roundg k1; (case measure => have := HK1.out; omega); (case rel => exact ⟨(y152), (wrap64 (x6_1 + 1)), rS, H', ⟨by have := HK1.out; omega⟩, ⟨rk HO_5.out⟩, ⟨bB⟩⟩)
        rw [if_neg c9] at H; (exact absurd H (by simp))
       rw [if_neg c8] at H; (exact absurd H (by simp))
      rw [if_neg c7] at H; have c7b0 : decide (x6_1 < a0) = false := decide_eq_false c7; clear c7; obtain rfl := Option.some.inj H; have hcv13 := own_string (P := Try.prog) Try.underlying39 Try.underlying5 Try.underlying9 (Kd.own_of_R HO_5.out); go_wp2; go_ret; exact ⟨eF, bB⟩
   rw [if_neg c4] at H; (exact absurd H (by simp))
  rw [if_neg c3] at H; (exact absurd H (by simp))

/-! ### spec_l03Zero: function 113 -/
def spec_l03Zero.f (k : Nat)  : Option (ByteArray) := (spec_l01Long.f k 64 0).bind fun t153 => (some t153)
theorem spec_l03Zero.mono : ∀ k, LeO (spec_l03Zero.f k ) (spec_l03Zero.f (k + 1) ) := by
  intro  k; unfold spec_l03Zero.f; (repeat' first | (with_reducible exact spec_l01Long.mono _ _ _) | (with_reducible exact LeO.refl _) | (with_reducible exact LeO.none _) | (with_reducible refine LeO.ite ?_ ?_) | (with_reducible refine LeO.bind ?_ (fun _ => ?_)) | exact spec_l01Long.mono _ _ _ | exact LeO.none _ | refine LeO.ite ?_ ?_ | refine LeO.bind ?_ (fun _ => ?_))
set_option maxHeartbeats 8000000 in
set_option maxRecDepth 100000 in
theorem spec_l03Zero.calls (k : Nat)  (r : ByteArray) (w : World) (h : spec_l03Zero.f k  = some r) :
    Calls Try.prog 113 #[] w fun e w' => e = .returned (.string r) ∧ Below w.heap.size w w' := by
  have HB := Aside0.mk (Below.refl w.heap.size w); (have H : ((spec_l01Long.f k 64 0).bind fun t153 => (some t153)) = some r := h); clear h; replace H := oB H; obtain ⟨t153, A10, H⟩ := H; replace H : (some t153) = some r := H; have A1 := Aside0.mk A10; clear A10; obtain rfl := Option.some.inj H; go_enter Try.func113, Try.ntmps113; (go_wp2_with (first | ((with_reducible refine gate_callee (f := 107) rfl ?_); refine gL (some 1) Try.func107 #[.int .i64 64, .int .u8 0] ?_; (with_reducible refine (spec_l01Long.calls k 64 0 t153 _ A1.out).mono ?_); rintro e w2 ⟨rfl, hb⟩; refine ⟨_, rfl, ?_⟩; replace HB := bS hb; (try clear hb); (try clear hb2); (try clear hk); (try clear hi)))); go_ret; exact ⟨eF, bB⟩

/-! ### spec_DiskNew: function 90 -/
def spec_DiskNew.l0 : Nat → Int → Int → List ByteArray → Option (List ByteArray × (List (S88)) × Bool)
  | 0, _, _, _ => none
  | k + 1, x0, x5, x157000 => if x5 < x0 then ((spec_l03Zero.f k).bind fun t157 => (if x157000.length < 8796093022208 then (spec_DiskNew.l0 k x0 (wrap64 (x5 + 1)) (x157000 ++ [t157])) else (none))) else (some (x157000, ([] : List (S88)), true))
def spec_DiskNew.f (k : Nat) (a0 : Int) : Option (List ByteArray × (List (S88)) × Bool) := (spec_l01In.f a0 1 100).bind fun t155 => (if t155 = true then (spec_DiskNew.l0 k a0 0 ([] : List ByteArray)) else (some (([] : List ByteArray), ([] : List (S88)), false)))
theorem spec_DiskNew.mono_l : ∀ k, (∀ y0 y1 y2, LeO (spec_DiskNew.l0 k y0 y1 y2) (spec_DiskNew.l0 (k + 1) y0 y1 y2))
  | 0 => fun _ _ _ r h => by simp [spec_DiskNew.l0] at h
  | k + 1 => by
    have ih0 := spec_DiskNew.mono_l k
    · intro y0 y1 y2
      unfold spec_DiskNew.l0
      repeat' first
      | (with_reducible exact ih0 _ _ _)
      | (with_reducible exact spec_l03Zero.mono _)
      | (with_reducible exact LeO.refl _)
      | (with_reducible exact LeO.none _)
      | (with_reducible refine LeO.ite ?_ ?_)
      | (with_reducible refine LeO.bind ?_ (fun _ => ?_))
      | exact ih0 _ _ _
      | exact spec_l03Zero.mono _
      | exact LeO.none _
      | refine LeO.ite ?_ ?_
      | refine LeO.bind ?_ (fun _ => ?_)
theorem spec_DiskNew.mono : ∀ a0 k, LeO (spec_DiskNew.f k a0) (spec_DiskNew.f (k + 1) a0) := by
  intro a0 k; have ih0 := spec_DiskNew.mono_l k; unfold spec_DiskNew.f; (repeat' first | (with_reducible exact ih0 _ _ _) | (with_reducible exact spec_l03Zero.mono _) | (with_reducible exact LeO.refl _) | (with_reducible exact LeO.none _) | (with_reducible refine LeO.ite ?_ ?_) | (with_reducible refine LeO.bind ?_ (fun _ => ?_)) | exact ih0 _ _ _ | exact spec_l03Zero.mono _ | exact LeO.none _ | refine LeO.ite ?_ ?_ | refine LeO.bind ?_ (fun _ => ?_))
set_option maxHeartbeats 8000000 in
set_option maxRecDepth 100000 in
theorem spec_DiskNew.calls (k : Nat) (a0 : Int) (r1 : List ByteArray) (r2 : List (S88)) (r3 : Bool) (w : World) (h : spec_DiskNew.f k a0 = some (r1, r2, r3)) :
    Calls Try.prog 90 #[.int .i64 a0] w fun e w' => ∃ v0_ v1_ : Value, e = .returned (.tuple #[.agg #[v0_, v1_], .bool r3]) ∧ Kd.R Kd.string 9 w' w.heap.size (fun _ => True) v0_ r1 ∧ Kd.R k88 88 w' w.heap.size (fun _ => True) v1_ r2 ∧ Below w.heap.size w w' := by
  have hu30 := Try.underlying30; have HB := Aside0.mk (Below.refl w.heap.size w); (have H : ((spec_l01In.f a0 1 100).bind fun t155 => (if t155 = true then (spec_DiskNew.l0 k a0 0 ([] : List ByteArray)) else (some (([] : List ByteArray), ([] : List (S88)), false)))) = some (r1, r2, r3) := h); clear h; replace H := oB H; obtain ⟨t155, A20, H⟩ := H; replace H : (if t155 = true then (spec_DiskNew.l0 k a0 0 ([] : List ByteArray)) else (some (([] : List ByteArray), ([] : List (S88)), false))) = some (r1, r2, r3) := H; have A2 := Aside0.mk A20; clear A20; by_cases c3 : t155 = true
  ·
   subst c3; (have H1 : (spec_DiskNew.l0 k a0 0 ([] : List ByteArray)) = some (r1, r2, r3) := by rw [if_pos rfl] at H; exact H); clear H; have H := H1; clear H1; have H' := Aside0.mk H; clear H; go_enter Try.func90, Try.ntmps90; (go_wp2_with (first | ((with_reducible refine gate_dst (N := 2) rfl ?_); refine bE (N := 2) (cs := #[.slice none 0 0, .slice none 0 0]) (t := 30) ?_; intro gb154 hg w4 hbox hb; have BK154 := Aside0.mk (hbox); have GW154 := gW hg; have GE154 := GW154; replace HB := bS hb; clear hb hbox hg) | ((with_reducible refine gate_callee (f := 80) rfl ?_); refine gL (some 7) Try.func80 #[.int .i64 a0, .int .i64 1, .int .i64 100] ?_; (with_reducible refine (spec_l01In.calls a0 1 100 true _ A2.out).mono ?_); rintro e w' ⟨rfl, ⟨nd, rfl⟩⟩; refine ⟨_, rfl, ?_⟩; (try (rw [drewN_self w4]; generalize hq_ : World.drewN w4 _ = w4; have n0_ : Aside0 (w4.heap[gb154]? = some (.cells #[.slice none 0 0, .slice none 0 0] 30 (0, 0))) := ⟨by rw [← hq_]; exact (bk BK154.out)⟩; have n1_ : Aside0 (Below w.heap.size w w4) := ⟨by rw [← hq_]; exact bB⟩; clear BK154 HB hq_; have BK154 := n0_; have HB := n1_; clear n0_ n1_))) | ((with_reducible refine gate_dst (N := 4) rfl ?_); refine bE (N := 4) (cs := #[.slice none 0 0, .slice none 0 0]) (t := 30) ?_; intro gb156 hg w5 hbox hb; have BK156 := Aside0.mk (hbox); have GW156 := gW hg; have GE156 := GW156; have NB154_156 := nL BK154 hg; have NB156_154 := nG BK154 hg; replace BK154 := kB BK154 hb; replace HB := bS hb; clear hb hbox hg; have hnb6 := NB156_154.out; have hnc6 := NB154_156.out; obtain ⟨hcz7_0, hcz7_1, hfz7_0, hfz7_1⟩ := b2 BK156))); (go_loopg [5] k (fun kq v5 w' => ∃ (x5_1 : Int) (x157000_1 : List ByteArray) (u157000 : Value), v5 = .int .i64 x5_1 ∧ Aside0 (spec_DiskNew.l0 kq a0 x5_1 x157000_1 = some (r1, r2, r3)) ∧ Aside0 (kq ≤ k) ∧ Aside0 (Kd.R Kd.string 9 w' w.heap.size (fun _ => True) u157000 x157000_1) ∧ Aside0 (w'.heap[gb154]? = some (.cells #[(.slice none 0 0), (.slice none 0 0)] 30 (0, 0))) ∧ Aside0 (w'.heap[gb156]? = some (.cells #[u157000, (.slice none 0 0)] 30 (0, 0))) ∧ Aside0 (Below w.heap.size w w'))); (case atStart => exact ⟨(0), (([] : List ByteArray)), (.slice none 0 0), rS, H', ⟨Nat.le_refl _⟩, ⟨by first | exact Kd.R_nil _ _ _ _ _ | exact Kd.N_nil _ _ _ _ _ | exact Kd.V_nil _ _ _ _ _ | exact Kd.Q_nil _ _ _ _ _ | exact Kd.S_nil _ _ _ _ _⟩, ⟨bk BK154.out⟩, ⟨pk BK156.out⟩, ⟨bB⟩⟩)
   case round =>
    clear H'; (try clear p2); (try clear c3); (try clear c6); (try clear hcz7_0); (try clear hcz7_1); (try clear hfz7_0); (try clear hfz7_1); obtain ⟨x5_1, x157000_1, u157000, rfl, HA, HK1, HO_157000, BK154, BK156, HB⟩ := hrel
    cases gk with
    | zero => exact absurd HA.out (by simp [spec_DiskNew.l0])
    | succ k1 =>
     have H := HA.out; clear HA; simp only [spec_DiskNew.l0] at H; by_cases c8 : x5_1 < a0
     ·
      rw [if_pos c8] at H; have c8b0 : decide (x5_1 < a0) = true := decide_eq_true c8; clear c8; replace H := oB H; obtain ⟨t157, A90, H⟩ := H; replace H : (if x157000_1.length < 8796093022208 then (spec_DiskNew.l0 k1 a0 (wrap64 (x5_1 + 1)) (x157000_1 ++ [t157])) else (none)) = some (r1, r2, r3) := H; have A9 := Aside0.mk A90; clear A90; by_cases c10 : x157000_1.length < 8796093022208
      ·
       rw [if_pos c10] at H; have LMc10 := Aside0.mk c10; clear c10; obtain ⟨y158, hy158⟩ : ∃ y_ : List ByteArray, y_ = (x157000_1 ++ [t157]) := ⟨_, rfl⟩; (replace H : (spec_DiskNew.l0 k1 a0 (wrap64 (x5_1 + 1)) y158) = some (r1, r2, r3) := by first | (rw [hy158]; with_reducible exact H) | (have H2_ := (Option.bind_some _ _).symm.trans H; rw [hy158]; with_reducible exact H2_) | (have H2_ := (Option.bind_some _ _).symm.trans H; with_reducible exact H2_) | with_reducible exact H | (rw [hy158]; exact H) | exact H); have Ny158 := Aside0.mk hy158; clear hy158; have H' := Aside0.mk H; clear H; (try go_wp2); replace HO_157000 := Aside0.mk (Kd.R_drew HO_157000.out); replace BK154 := Aside0.mk (blk_drew BK154.out); replace BK156 := Aside0.mk (blk_drew BK156.out); replace HB := Aside0.mk (below_drew1 HB.out); (refine start_ (n := 7) (S := fun w' => w'.cell? ⟨gb156, 0, none⟩ = some (u157000) ∧ w'.cell? ⟨gb156, 1, none⟩ = some (.slice none 0 0)) (ds := [6]) #[F,F,F,F,F,F,F] (by kernel_rfl) rfl rfl (b3 BK156) (fun hHeld => ?_)); generalize wr.drew = w11 at HO_157000 BK154 BK156 HB hHeld ⊢; (refine pure_ (i := 0) (N := some 16) (v := ?_) (a' := ?_) #[T,F,F,F,F,F,F] rfl rfl (by kernel_rfl) (fun _ _ _ h => h) (Or.inl ⟨by rfl, ?_⟩) ?_ ?_); rotate_left
       · intro w'; go_simp; (with_reducible rfl)
       rotate_left
       · simp only [Act.put, lB, lZ, lS, i64_w, i32_w]; rfl
       (refine take_ (i := 1) (N := some 17) (v := ?_) (a' := ?_) #[T,T,F,F,F,F,F] rfl rfl (by kernel_rfl) (fun _ _ _ h => h) (Or.inl ⟨by rfl, ?_⟩) hHeld ?_ ?_); rotate_left
       · rintro w' ⟨s0, s1⟩; go_simp; (with_reducible rfl)
       rotate_left
       · simp only [Act.put, lB, lZ, lS, i64_w, i32_w]; rfl
       (refine one_ (i := 2) (N := some 18) #[T,T,T,F,F,F,F] rfl rfl (by kernel_rfl) (by decide) (fun K hK => ?_)); (refine gO Try.func113 #[] ?_); (with_reducible refine (spec_l03Zero.calls k1  t157 _ A9.out).mono ?_); rintro e w12 ⟨rfl, hb⟩; refine ⟨_, rfl, ?_⟩; replace HO_157000 := rB HO_157000 hb; replace BK154 := kB BK154 hb; replace BK156 := kB BK156 hb; replace HB := bS hb; (try clear hb); (try clear hb2); (try clear hk); (try clear hi); (refine hK.out _ _ (b3 BK156) (fun hHeld => ?_)); clear hK K; refine norm_ (a' := ?_) ?_ ?_; rotate_left
       · show Act.put _ (some 18) _ = _; simp only [Act.put, lB, lZ, lS, i64_w, i32_w]; rfl
       (refine one_ (i := 3) (N := some 19) #[T,T,T,T,F,F,F] rfl rfl (by kernel_rfl) (by decide) (fun K hK => ?_)); (refine value_ (w1 := ?_) (v := ?_) (by rfl) rfl ?_ ?_); rotate_left 2
       ·
        go_simp; constructor
        · rfl
        rfl
       (refine hK.out _ _ ⟨(blk_cell (blk_alloc BK156.out _) 0).trans rfl, (blk_cell (blk_alloc BK156.out _) 1).trans rfl⟩ (fun hHeld => ?_)); clear hK K; refine norm_ (a' := ?_) ?_ ?_; rotate_left
       · show Act.put _ (some 19) _ = _; simp only [Act.put, lB, lZ, lS, i64_w, i32_w]; rfl
       (refine one_ (i := 4) (N := some 20) #[T,T,T,T,T,F,F] rfl rfl (by kernel_rfl) (by decide) (fun K hK => ?_)); (refine Kd.R_append_step Kd.string (w0 := w) w.heap.size (by rfl) (.tmp 17) (.tmp 19) 22 9 (.string ⟨#[]⟩) 16 rfl Try.underlying22 info9 rfl (by decide) (by omega) u157000 x157000_1 t157 [.string t157] (fun _ => True) (fun _ => False) rfl rfl ?aP (fun _ hk => hk.elim) ?aF ?aO ?aB ?aS ?aL ?_); (case aP => exact rfl); (case aB => exact bB); (case aF => exact (fun _ _ => trivial)); (case aO => exact (rk HO_157000.out)); (case aS => exact (below_size bB)); (case aL => have := LMc10.out; omega); intro v159 w13 ho hb hg hat; rw [← Ny158.out] at ho; have HO160 := Aside0.mk (ho); (replace BK154 := Aside0.mk (blk_grown (g := gb154) (o := .cells #[.slice none 0 0, .slice none 0 0] 30 (0, 0)) (bk BK154.out) hg (Kd.R_ne HO_157000.out BK154.out (by decide)))); (replace BK156 := Aside0.mk (blk_grown (g := gb156) (o := .cells #[u157000, .slice none 0 0] 30 (0, 0)) (bk BK156.out) hg (Kd.R_ne HO_157000.out BK156.out (by decide)))); replace HB := Aside0.mk (hb); clear HO_157000 ho hb hg hat; obtain ⟨Ao14, co14, eo14⟩ := Kd.R_slice HO160.out; (first | subst eo14 | (injection eo14 with f1_ f2_ f3_; have f4_ := f1_.symm; have f5_ := f3_.symm; clear f1_ f2_ f3_; subst f4_; subst f5_)); (refine hK.out _ _ (b3 BK156) (fun hHeld => ?_)); clear hK K; refine norm_ (a' := ?_) ?_ ?_; rotate_left
       · show Act.put _ (some 20) _ = _; simp only [Act.put, lB, lZ, lS, i64_w, i32_w]; rfl
       (refine pure_ (i := 5) (N := some 21) (v := ?_) (a' := ?_) #[T,T,T,T,T,T,F] rfl rfl (by kernel_rfl) (fun _ _ _ h => h) (Or.inl ⟨by rfl, ?_⟩) ?_ ?_); rotate_left
       · intro w'; go_simp; (with_reducible rfl)
       rotate_left
       · simp only [Act.put, lB, lZ, lS, i64_w, i32_w]; rfl
       (refine last_ (i := 6) (N := none) #[T,T,T,T,T,T,T] rfl rfl (by kernel_rfl) (by decide) (fun K hK => ?_)); have hs15 : w13.cell? ⟨gb156, 0, none⟩ = some (u157000) := (blk_cell BK156.out 0).trans rfl; have hfs15 := blk_frozen BK156.out 0; have hns15_0 := NB154_156.out; have hms15_0 := NB156_154.out; (refine skip_ (w1 := ?_) (by rfl) rfl ?_ ?_); rotate_left
       · go_simp; rfl
       refine hK.out _ _ ?_; clear hK K; (refine done_ (by kernel_rfl) ?_); (try go_wp2); go_roundg k1; (case measure => have := HK1.out; omega); (case rel => exact ⟨(wrap64 (x5_1 + 1)), (y158), (.slice Ao14 y158.length co14), rS, H', ⟨by have := HK1.out; omega⟩, ⟨rG HO160 BK156⟩, ⟨bk BK154.out⟩, ⟨pk BK156.out⟩, ⟨bB⟩⟩)
      rw [if_neg c10] at H; (exact absurd H (by simp))
     rw [if_neg c8] at H; have c8b0 : decide (x5_1 < a0) = false := decide_eq_false c8; clear c8; simp only [Option.some.injEq, Prod.mk.injEq] at H; obtain ⟨rfl, rfl, rfl⟩ := H; have hnb16 := NB156_154.out; have hnc16 := NB154_156.out; obtain ⟨hcz17_0, hcz17_1, hfz17_0, hfz17_1⟩ := b2 BK156; obtain ⟨Ao18, co18, eo18⟩ := Kd.R_slice HO_157000.out; subst eo18; obtain ⟨hcz19_0, hcz19_1, hfz19_0, hfz19_1⟩ := b2 BK154; go_wp2; (refine bodyPost_ret (results_ct rfl _ _ gb154 30 #[.slice Ao18 x157000_1.length co18, .slice none 0 0] (0, 0) _ rfl (pk BK154.out) Try.underlying30 rfl (by kernel_rfl)) rfl ?_); (exact ⟨_, _, eF, rG HO_157000 BK154, by first | exact Kd.R_nil _ _ _ _ _ | exact Kd.N_nil _ _ _ _ _ | exact Kd.V_nil _ _ _ _ _ | exact Kd.Q_nil _ _ _ _ _ | exact Kd.S_nil _ _ _ _ _, bB⟩)
  replace c3 := Bool.eq_false_iff.mpr c3; subst c3; (have H1 : (some (([] : List ByteArray), ([] : List (S88)), false)) = some (r1, r2, r3) := by rw [if_neg (show ¬ (false = true) by decide)] at H; exact H); clear H; have H := H1; clear H1; simp only [Option.some.injEq, Prod.mk.injEq] at H; obtain ⟨rfl, rfl, rfl⟩ := H; go_enter Try.func90, Try.ntmps90; (go_wp2_with (first | ((with_reducible refine gate_dst (N := 2) rfl ?_); refine bE (N := 2) (cs := #[.slice none 0 0, .slice none 0 0]) (t := 30) ?_; intro gb154 hg w20 hbox hb; have BK154 := Aside0.mk (hbox); have GW154 := gW hg; have GE154 := GW154; replace HB := bS hb; clear hb hbox hg) | ((with_reducible refine gate_callee (f := 80) rfl ?_); refine gL (some 7) Try.func80 #[.int .i64 a0, .int .i64 1, .int .i64 100] ?_; (with_reducible refine (spec_l01In.calls a0 1 100 false _ A2.out).mono ?_); rintro e w' ⟨rfl, ⟨nd, rfl⟩⟩; refine ⟨_, rfl, ?_⟩; (try (rw [drewN_self w20]; generalize hq_ : World.drewN w20 _ = w20; have n0_ : Aside0 (w20.heap[gb154]? = some (.cells #[.slice none 0 0, .slice none 0 0] 30 (0, 0))) := ⟨by rw [← hq_]; exact (bk BK154.out)⟩; have n1_ : Aside0 (Below w.heap.size w w20) := ⟨by rw [← hq_]; exact bB⟩; clear BK154 HB hq_; have BK154 := n0_; have HB := n1_; clear n0_ n1_)); obtain ⟨hcz21_0, hcz21_1, hfz21_0, hfz21_1⟩ := b2 BK154))); (refine bodyPost_ret (results_ct rfl _ _ gb154 30 #[.slice none 0 0, .slice none 0 0] (0, 0) _ rfl (pk BK154.out) Try.underlying30 rfl (by kernel_rfl)) rfl ?_); (exact ⟨_, _, eF, by first | exact Kd.R_nil _ _ _ _ _ | exact Kd.N_nil _ _ _ _ _ | exact Kd.V_nil _ _ _ _ _ | exact Kd.Q_nil _ _ _ _ _ | exact Kd.S_nil _ _ _ _ _, by first | exact Kd.R_nil _ _ _ _ _ | exact Kd.N_nil _ _ _ _ _ | exact Kd.V_nil _ _ _ _ _ | exact Kd.Q_nil _ _ _ _ _ | exact Kd.S_nil _ _ _ _ _, bB⟩)

/-! ### spec_LogNew: function 46 -/
def spec_LogNew.f (k : Nat)  : Option (List ByteArray × (List (S88))) := (spec_l04Sectors.f).bind fun t162 => ((spec_DiskNew.f k t162).bind fun bt163 => (some (bt163.1, bt163.2.1)))
theorem spec_LogNew.mono : ∀ k, LeO (spec_LogNew.f k ) (spec_LogNew.f (k + 1) ) := by
  intro  k; unfold spec_LogNew.f; (repeat' first | (with_reducible exact spec_DiskNew.mono _ _) | (with_reducible exact LeO.refl _) | (with_reducible exact LeO.none _) | (with_reducible refine LeO.ite ?_ ?_) | (with_reducible refine LeO.bind ?_ (fun _ => ?_)) | exact spec_DiskNew.mono _ _ | exact LeO.none _ | refine LeO.ite ?_ ?_ | refine LeO.bind ?_ (fun _ => ?_))
set_option maxHeartbeats 8000000 in
set_option maxRecDepth 100000 in
theorem spec_LogNew.calls (k : Nat)  (r1 : List ByteArray) (r2 : List (S88)) (w : World) (h : spec_LogNew.f k  = some (r1, r2)) :
    Calls Try.prog 46 #[] w fun e w' => ∃ v0_ v1_ : Value, e = .returned (.agg #[v0_, v1_]) ∧ Kd.R Kd.string 9 w' w.heap.size (fun _ => True) v0_ r1 ∧ Kd.R k88 88 w' w.heap.size (fun _ => True) v1_ r2 ∧ Below w.heap.size w w' := by
  have hu30 := Try.underlying30; have HB := Aside0.mk (Below.refl w.heap.size w); (have H : ((spec_l04Sectors.f).bind fun t162 => ((spec_DiskNew.f k t162).bind fun bt163 => (some (bt163.1, bt163.2.1)))) = some (r1, r2) := h); clear h; replace H := oB H; obtain ⟨t162, A10, H⟩ := H; (replace H : ((spec_DiskNew.f k t162).bind fun bt163 => (some (bt163.1, bt163.2.1))) = some (r1, r2) := H); have A1 := Aside0.mk A10; clear A10; replace H := oB H; obtain ⟨⟨t163, t166, t169⟩, A20, H⟩ := H; replace H : (some (t163, t166)) = some (r1, r2) := H; have A2 := Aside0.mk A20; clear A20; simp only [Option.some.injEq, Prod.mk.injEq] at H; obtain ⟨rfl, rfl⟩ := H; go_enter Try.func46, Try.ntmps46; (go_wp2_with (first | ((with_reducible refine gate_dst (N := 0) rfl ?_); refine bE (N := 0) (cs := #[.slice none 0 0, .slice none 0 0]) (t := 30) ?_; intro gb161 hg w3 hbox hb; have BK161 := Aside0.mk (hbox); have GW161 := gW hg; have GE161 := GW161; replace HB := bS hb; clear hb hbox hg) | ((with_reducible refine gate_callee (f := 87) rfl ?_); refine gL (some 4) Try.func87 #[] ?_; (with_reducible refine (spec_l04Sectors.calls  t162 _ A1.out).mono ?_); rintro e w' ⟨rfl, ⟨nd, rfl⟩⟩; refine ⟨_, rfl, ?_⟩; (try (rw [drewN_self w3]; generalize hq_ : World.drewN w3 _ = w3; have n0_ : Aside0 (w3.heap[gb161]? = some (.cells #[.slice none 0 0, .slice none 0 0] 30 (0, 0))) := ⟨by rw [← hq_]; exact (bk BK161.out)⟩; have n1_ : Aside0 (Below w.heap.size w w3) := ⟨by rw [← hq_]; exact bB⟩; clear BK161 HB hq_; have BK161 := n0_; have HB := n1_; clear n0_ n1_))) | ((with_reducible refine gate_callee (f := 90) rfl ?_); refine gL (some 5) Try.func90 #[.int .i64 t162] ?_; (with_reducible refine (spec_DiskNew.calls k t162 t163 t166 t169 _ A2.out).mono ?_); rintro e w4 ⟨v164, v167, rfl, ho0, ho1, hb⟩; refine ⟨_, rfl, ?_⟩; have HO165 := rL ho0; have HO168 := rL ho1; replace BK161 := kB BK161 hb; replace HB := bS hb; (try clear hb); (try clear hb2); (try clear hk); (try clear hi); (try clear ho0); (try clear ho1)) | ((with_reducible refine gate_dst (N := 1) rfl ?_); refine bE (N := 1) (cs := #[.slice none 0 0, .slice none 0 0]) (t := 30) ?_; intro gb170 hg w5 hbox hb; have BK170 := Aside0.mk (hbox); have GW170 := gW hg; have GE170 := GW170; have NB161_170 := nL BK161 hg; have NB170_161 := nG BK161 hg; replace HO165 := rB HO165 hb; replace HO168 := rB HO168 hb; replace BK161 := kB BK161 hb; replace HB := bS hb; clear hb hbox hg; obtain ⟨Ao6, co6, eo6⟩ := Kd.R_slice HO165.out; subst eo6; have hnb7 := NB170_161.out; have hnc7 := NB161_170.out; obtain ⟨hcz8_0, hcz8_1, hfz8_0, hfz8_1⟩ := b2 BK170; obtain ⟨Ao9, co9, eo9⟩ := Kd.R_slice HO168.out; subst eo9; obtain ⟨hcz10_0, hcz10_1, hfz10_0, hfz10_1⟩ := b2 BK161))); (refine bodyPost_ret (results_cell_row rfl _ _ gb161 30 #[.slice Ao6 t163.length co6, .slice Ao9 t166.length co9] (0, 0) _ rfl (pk BK161.out) Try.underlying30 rfl (by kernel_rfl)) rfl ?_); (exact ⟨_, _, eF, rk (Kd.R_mono (Kd.R_far (p := ⟨gb161, 1, none⟩) (Kd.R_far (p := ⟨gb161, 0, none⟩) (Kd.R_far (p := ⟨gb170, 1, none⟩) (Kd.R_far (p := ⟨gb170, 0, none⟩) (Kd.R_types (Kd.R_types HO165.out BK170.out (by decide)) BK161.out (by decide)) (fun _ hk => hk.1.2) (.slice Ao6 t163.length co6)) (fun _ hk => hk.1.2) (.slice Ao9 t166.length co9)) (fun _ hk => hk.2) (.slice Ao6 t163.length co6)) (fun _ hk => hk.2) (.slice Ao9 t166.length co9)) (fun _ hk => trivial)), rk (Kd.R_mono (Kd.R_far (p := ⟨gb161, 1, none⟩) (Kd.R_far (p := ⟨gb161, 0, none⟩) (Kd.R_far (p := ⟨gb170, 1, none⟩) (Kd.R_far (p := ⟨gb170, 0, none⟩) (Kd.R_types (Kd.R_types HO168.out BK170.out (by decide)) BK161.out (by decide)) (fun _ hk => hk.1.2) (.slice Ao6 t163.length co6)) (fun _ hk => hk.1.2) (.slice Ao9 t166.length co9)) (fun _ hk => hk.2) (.slice Ao6 t163.length co6)) (fun _ hk => hk.2) (.slice Ao9 t166.length co9)) (fun _ hk => trivial)), bB⟩)

end Go.Proofs.Ytlmnbgblmackkaa.QFnExactLogNew
