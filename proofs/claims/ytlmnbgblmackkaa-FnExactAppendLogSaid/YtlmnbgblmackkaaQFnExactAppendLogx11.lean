/- The functions that a law uses, as Lean functions, and proofs that the Go code comes to just what they say: written by a program of this session over the translation. Conditions: as each theorem states. -/
import Derived.Test.YtlmnbgblmackkaaQFnExactAppendLogx0
import Derived.Test.YtlmnbgblmackkaaQFnExactAppendLogx10
namespace Go.Proofs.Ytlmnbgblmackkaa.QFnExactAppendLog
open Go.RowKit Go.Proofs.YtlmnbgblmackkaaW.PrintWords Go.Proofs.YtlmnbgblmackkaaW.PrintLast Go.Proofs.YtlmnbgblmackkaaW.PrintMore Go.Proofs.YtlmnbgblmackkaaW.Sh
attribute [local go_sem] max2_int min2_int max_two min_two max_three min_three max_four min_four   -- for this text's walks alone
set_option linter.unusedVariables false
set_option linter.unusedSimpArgs false

/-! ### spec_ReadSector: function 51 -/
def spec_ReadSector.l0 : Nat → Int → Int → List ByteArray → List (S88) → Option (ByteArray × Bool)
  | 0, _, _, _, _ => none
  | k + 1, x1, x6, x395000, x395001 => if x6 ≥ 0 then (if 0 ≤ x6 then (if x6 < (x395001.length : Int) then (if ((rd_T88 x395001 x6).f0) = x1 then (some ((rd_T88 x395001 x6).f1, true)) else (spec_ReadSector.l0 k x1 (wrap64 (x6 - 1)) x395000 x395001)) else (none)) else (none)) else (if 0 ≤ x1 then (if x1 < (x395000.length : Int) then (some (rdOf ByteArray.empty x395000 x1, true)) else (none)) else (none))
def spec_ReadSector.f (k : Nat) (l0_0 : List ByteArray) (l0_1 : List (S88)) (a1 : Int) : Option (ByteArray × Bool) := (spec_l01In.f a1 0 (wrap64 ((l0_0.length : Int) - 1))).bind fun t395 => (if t395 = true then (spec_ReadSector.l0 k a1 (wrap64 ((l0_1.length : Int) - 1)) l0_0 l0_1) else (some ((⟨#[]⟩ : ByteArray), false)))
theorem spec_ReadSector.mono_l : ∀ k, (∀ y0 y1 y2 y3, LeO (spec_ReadSector.l0 k y0 y1 y2 y3) (spec_ReadSector.l0 (k + 1) y0 y1 y2 y3))
  | 0 => fun _ _ _ _ r h => by simp [spec_ReadSector.l0] at h
  | k + 1 => by
    have ih0 := spec_ReadSector.mono_l k
    · intro y0 y1 y2 y3
      unfold spec_ReadSector.l0
      repeat' first
      | (with_reducible exact ih0 _ _ _ _)
      | (with_reducible exact LeO.refl _)
      | (with_reducible exact LeO.none _)
      | (with_reducible refine LeO.ite ?_ ?_)
      | (with_reducible refine LeO.bind ?_ (fun _ => ?_))
      | exact ih0 _ _ _ _
      | exact LeO.none _
      | refine LeO.ite ?_ ?_
      | refine LeO.bind ?_ (fun _ => ?_)
theorem spec_ReadSector.mono : ∀ a0 a1 a2 k, LeO (spec_ReadSector.f k a0 a1 a2) (spec_ReadSector.f (k + 1) a0 a1 a2) := by
  intro a0 a1 a2 k; have ih0 := spec_ReadSector.mono_l k; unfold spec_ReadSector.f; (repeat' first | (with_reducible exact ih0 _ _ _ _) | (with_reducible exact LeO.refl _) | (with_reducible exact LeO.none _) | (with_reducible refine LeO.ite ?_ ?_) | (with_reducible refine LeO.bind ?_ (fun _ => ?_)) | exact ih0 _ _ _ _ | exact LeO.none _ | refine LeO.ite ?_ ?_ | refine LeO.bind ?_ (fun _ => ?_))
set_option maxHeartbeats 8000000 in
set_option maxRecDepth 100000 in
theorem spec_ReadSector.calls (k : Nat) (A0_0 : Option Addr) (c0_0 : Nat) (l0_0 : List ByteArray) (A0_1 : Option Addr) (c0_1 : Nat) (l0_1 : List (S88)) (a1 : Int) (r1 : ByteArray) (r2 : Bool) (w : World) (hr0_0 : Kd.C Kd.string w A0_0 l0_0.length l0_0) (hc0_0 : l0_0.length ≤ c0_0) (hr0_1 : Kd.C k88 w A0_1 l0_1.length l0_1) (hc0_1 : l0_1.length ≤ c0_1) (h : spec_ReadSector.f k l0_0 l0_1 a1 = some (r1, r2)) :
    Calls Try.prog 51 #[.agg #[.slice A0_0 l0_0.length c0_0, .slice A0_1 l0_1.length c0_1], .int .i64 a1] w fun e w' => e = .returned (.tuple #[.string r1, .bool r2]) ∧ Below w.heap.size w w' := by
  have hu30 := Try.underlying30; have HR0_0 := Aside0.mk hr0_0; have HC0_0 := Aside0.mk hc0_0; clear hr0_0 hc0_0; have HR0_1 := Aside0.mk hr0_1; have HC0_1 := Aside0.mk hc0_1; clear hr0_1 hc0_1; have HB := Aside0.mk (Below.refl w.heap.size w); (have H : ((spec_l01In.f a1 0 (wrap64 ((l0_0.length : Int) - 1))).bind fun t395 => (if t395 = true then (spec_ReadSector.l0 k a1 (wrap64 ((l0_1.length : Int) - 1)) l0_0 l0_1) else (some ((⟨#[]⟩ : ByteArray), false)))) = some (r1, r2) := h); clear h; replace H := oB H; obtain ⟨t395, A30, H⟩ := H; replace H : (if t395 = true then (spec_ReadSector.l0 k a1 (wrap64 ((l0_1.length : Int) - 1)) l0_0 l0_1) else (some ((⟨#[]⟩ : ByteArray), false))) = some (r1, r2) := H; have A3 := Aside0.mk A30; clear A30; by_cases c4 : t395 = true
  ·
   subst c4; (have H1 : (spec_ReadSector.l0 k a1 (wrap64 ((l0_1.length : Int) - 1)) l0_0 l0_1) = some (r1, r2) := by rw [if_pos rfl] at H; exact H); clear H; have H := H1; clear H1; have H' := Aside0.mk H; clear H; go_enter Try.func51, Try.ntmps51; (go_wp2_with (first | ((with_reducible refine gate_dst (N := 2) rfl ?_); refine bE (N := 2) (cs := #[.slice A0_0 l0_0.length c0_0, .slice A0_1 l0_1.length c0_1]) (t := 30) ?_; intro gb394 hg w5 hbox hb; have BK394 := Aside0.mk (hbox); have GW394 := gW hg; have GE394 := GW394; replace HB := bS hb; clear hb hbox hg; obtain ⟨hcz6_0, hcz6_1, hfz6_0, hfz6_1⟩ := b2 BK394) | ((with_reducible refine gate_callee (f := 80) rfl ?_); refine gL (some 12) Try.func80 #[.int .i64 a1, .int .i64 0, .int .i64 (wrap64 ((l0_0.length : Int) - 1))] ?_; (with_reducible refine (spec_l01In.calls a1 0 (wrap64 ((l0_0.length : Int) - 1)) true _ A3.out).mono ?_); rintro e w' ⟨rfl, ⟨nd, rfl⟩⟩; refine ⟨_, rfl, ?_⟩))); (go_loopg [6] k (fun kq v6 w' => ∃ (x6_1 : Int), v6 = .int .i64 x6_1 ∧ Aside0 (spec_ReadSector.l0 kq a1 x6_1 l0_0 l0_1 = some (r1, r2)) ∧ Aside0 (kq ≤ k) ∧ Aside0 (w'.heap[gb394]? = some (.cells #[(.slice A0_0 l0_0.length c0_0), (.slice A0_1 l0_1.length c0_1)] 30 (0, 0))) ∧ Aside0 (Below w.heap.size w w'))); (case atStart => exact ⟨(wrap64 ((l0_1.length : Int) - 1)), rS, H', ⟨Nat.le_refl _⟩, ⟨bk BK394.out⟩, ⟨bB⟩⟩)
   case round =>
    clear H'; (try clear p2); (try clear c4); (try clear c5); (try clear p6); (try clear hcz6_0); (try clear hcz6_1); (try clear hfz6_0); (try clear hfz6_1); obtain ⟨x6_1, rfl, HA, HK1, BK394, HB⟩ := hrel
    cases gk with
    | zero => exact absurd HA.out (by simp [spec_ReadSector.l0])
    | succ k1 =>
     have H := HA.out; clear HA; simp only [spec_ReadSector.l0] at H; by_cases c7 : x6_1 ≥ 0
     ·
      rw [if_pos c7] at H; have c7b0 : decide (0 ≤ x6_1) = true := decide_eq_true c7; clear c7; by_cases c8 : 0 ≤ x6_1
      ·
       rw [if_pos c8] at H; have c8b0 : decide (0 ≤ x6_1) = true := decide_eq_true c8; clear c8; by_cases c9 : x6_1 < (l0_1.length : Int)
       ·
        rw [if_pos c9] at H; have c9b0 : decide (x6_1 < (l0_1.length : Int)) = true := decide_eq_true c9; clear c9; by_cases c10 : ((rd_T88 l0_1 x6_1).f0) = a1
        · rw [if_pos c10] at H; have c10b0 : (((rd_T88 l0_1 x6_1).f0) == a1) = true := beq_iff_eq.mpr c10; have c10b1 : (((rd_T88 l0_1 x6_1).f0) != a1) = false := bne_eq_false_iff_eq.mpr c10; clear c10; simp only [Option.some.injEq, Prod.mk.injEq] at H; obtain ⟨rfl, rfl⟩ := H; obtain ⟨hcz11_0, hcz11_1, hfz11_0, hfz11_1⟩ := b2 BK394; (have p396 : 0 ≤ (x6_1 : Int) := of_decide_eq_true (by first | (with_reducible assumption) | assumption)); (have q396 : x6_1 < (l0_1.length : Int) := of_decide_eq_true (by first | (with_reducible assumption) | assumption)); obtain ⟨ad396, e396, hx396_0, hx396_1⟩ := at_T88 HR0_1.out x6_1 p396 q396; cases e396; replace hx396_0 := (HB.out.cell (World.block_lt_of_cell? w _ hx396_0)).trans hx396_0; replace hx396_1 := (HB.out.cell (World.block_lt_of_cell? w _ hx396_1)).trans hx396_1; replace p396 := eq_true p396; replace q396 := eq_true q396; (have p397 : 0 ≤ (x6_1 : Int) := of_decide_eq_true (by first | (with_reducible assumption) | assumption)); (have q397 : x6_1 < (l0_1.length : Int) := of_decide_eq_true (by first | (with_reducible assumption) | assumption)); obtain ⟨ad397, e397, hx397_0, hx397_1⟩ := at_T88 HR0_1.out x6_1 p397 q397; (obtain rfl : ad396 = ad397 := (by injection e397)); replace hx397_0 := (HB.out.cell (World.block_lt_of_cell? w _ hx397_0)).trans hx397_0; replace hx397_1 := (HB.out.cell (World.block_lt_of_cell? w _ hx397_1)).trans hx397_1; replace p397 := eq_true p397; replace q397 := eq_true q397; go_wp2; go_ret2; exact ⟨eF, bB⟩
        rw [if_neg c10] at H; have c10b0 : (((rd_T88 l0_1 x6_1).f0) == a1) = false := beq_eq_false_iff_ne.mpr c10; have c10b1 : (((rd_T88 l0_1 x6_1).f0) != a1) = true := bne_iff_ne.mpr c10; have H' := Aside0.mk H; clear H; obtain ⟨hcz12_0, hcz12_1, hfz12_0, hfz12_1⟩ := b2 BK394; (have p396 : 0 ≤ (x6_1 : Int) := of_decide_eq_true (by first | (with_reducible assumption) | assumption)); (have q396 : x6_1 < (l0_1.length : Int) := of_decide_eq_true (by first | (with_reducible assumption) | assumption)); obtain ⟨ad396, e396, hx396_0, hx396_1⟩ := at_T88 HR0_1.out x6_1 p396 q396; cases e396; replace hx396_0 := (HB.out.cell (World.block_lt_of_cell? w _ hx396_0)).trans hx396_0; replace hx396_1 := (HB.out.cell (World.block_lt_of_cell? w _ hx396_1)).trans hx396_1; replace p396 := eq_true p396; replace q396 := eq_true q396; go_wp2; go_roundg k1; (case measure => have := HK1.out; omega); (case rel => exact ⟨(wrap64 (x6_1 - 1)), rS, H', ⟨by have := HK1.out; omega⟩, ⟨bk BK394.out⟩, ⟨bB⟩⟩)
       rw [if_neg c9] at H; (exact absurd H (by simp))
      rw [if_neg c8] at H; (exact absurd H (by simp))
     rw [if_neg c7] at H; have c7b0 : decide (0 ≤ x6_1) = false := decide_eq_false c7; clear c7; by_cases c13 : 0 ≤ a1
     ·
      rw [if_pos c13] at H; have c13b0 : decide (0 ≤ a1) = true := decide_eq_true c13; clear c13; by_cases c14 : a1 < (l0_0.length : Int)
      · rw [if_pos c14] at H; have c14b0 : decide (a1 < (l0_0.length : Int)) = true := decide_eq_true c14; clear c14; simp only [Option.some.injEq, Prod.mk.injEq] at H; obtain ⟨rfl, rfl⟩ := H; obtain ⟨hcz15_0, hcz15_1, hfz15_0, hfz15_1⟩ := b2 BK394; (have p398 : 0 ≤ (a1 : Int) := of_decide_eq_true (by first | (with_reducible assumption) | assumption)); (have q398 : a1 < (l0_0.length : Int) := of_decide_eq_true (by first | (with_reducible assumption) | assumption)); obtain ⟨ad398, e398, hx398_0⟩ := Kd.at_string HR0_0.out a1 p398 q398; cases e398; replace hx398_0 := (HB.out.cell (World.block_lt_of_cell? w _ hx398_0)).trans hx398_0; replace p398 := eq_true p398; replace q398 := eq_true q398; go_wp2; go_ret2; exact ⟨eF, bB⟩
      rw [if_neg c14] at H; (exact absurd H (by simp))
     rw [if_neg c13] at H; (exact absurd H (by simp))
  replace c4 := Bool.eq_false_iff.mpr c4; subst c4; (have H1 : (some ((⟨#[]⟩ : ByteArray), false)) = some (r1, r2) := by rw [if_neg (show ¬ (false = true) by decide)] at H; exact H); clear H; have H := H1; clear H1; simp only [Option.some.injEq, Prod.mk.injEq] at H; obtain ⟨rfl, rfl⟩ := H; go_enter Try.func51, Try.ntmps51; (go_wp2_with (first | ((with_reducible refine gate_dst (N := 2) rfl ?_); refine bE (N := 2) (cs := #[.slice A0_0 l0_0.length c0_0, .slice A0_1 l0_1.length c0_1]) (t := 30) ?_; intro gb394 hg w16 hbox hb; have BK394 := Aside0.mk (hbox); have GW394 := gW hg; have GE394 := GW394; replace HB := bS hb; clear hb hbox hg; obtain ⟨hcz17_0, hcz17_1, hfz17_0, hfz17_1⟩ := b2 BK394) | ((with_reducible refine gate_callee (f := 80) rfl ?_); refine gL (some 12) Try.func80 #[.int .i64 a1, .int .i64 0, .int .i64 (wrap64 ((l0_0.length : Int) - 1))] ?_; (with_reducible refine (spec_l01In.calls a1 0 (wrap64 ((l0_0.length : Int) - 1)) false _ A3.out).mono ?_); rintro e w' ⟨rfl, ⟨nd, rfl⟩⟩; refine ⟨_, rfl, ?_⟩))); go_ret2; exact ⟨eF, bB⟩

/-! ### spec_l04Byte: function 89 -/
def spec_l04Byte.f (k : Nat) (l0_0 : List ByteArray) (l0_1 : List (S88)) (a1 : Int) : Option (Int) := (spec_ReadSector.f k l0_0 l0_1 a1).bind fun bt400 => (if bt400.2 = true then (if bt400.1.toList = ([] : List UInt8) then (some 0) else (if 0 < (bt400.1.size : Int) then (some (wrap64 (bt bt400.1 0))) else (none))) else (some 0))
theorem spec_l04Byte.mono : ∀ a0 a1 a2 k, LeO (spec_l04Byte.f k a0 a1 a2) (spec_l04Byte.f (k + 1) a0 a1 a2) := by
  intro a0 a1 a2 k; unfold spec_l04Byte.f; (repeat' first | (with_reducible exact spec_ReadSector.mono _ _ _ _) | (with_reducible exact LeO.refl _) | (with_reducible exact LeO.none _) | (with_reducible refine LeO.ite ?_ ?_) | (with_reducible refine LeO.bind ?_ (fun _ => ?_)) | exact spec_ReadSector.mono _ _ _ _ | exact LeO.none _ | refine LeO.ite ?_ ?_ | refine LeO.bind ?_ (fun _ => ?_))
set_option maxHeartbeats 8000000 in
set_option maxRecDepth 100000 in
theorem spec_l04Byte.calls (k : Nat) (A0_0 : Option Addr) (c0_0 : Nat) (l0_0 : List ByteArray) (A0_1 : Option Addr) (c0_1 : Nat) (l0_1 : List (S88)) (a1 : Int) (r : Int) (w : World) (hr0_0 : Kd.C Kd.string w A0_0 l0_0.length l0_0) (hc0_0 : l0_0.length ≤ c0_0) (hr0_1 : Kd.C k88 w A0_1 l0_1.length l0_1) (hc0_1 : l0_1.length ≤ c0_1) (h : spec_l04Byte.f k l0_0 l0_1 a1 = some r) :
    Calls Try.prog 89 #[.agg #[.slice A0_0 l0_0.length c0_0, .slice A0_1 l0_1.length c0_1], .int .i64 a1] w fun e w' => e = .returned (.int .i64 r) ∧ Below w.heap.size w w' := by
  have hu30 := Try.underlying30; have HR0_0 := Aside0.mk hr0_0; have HC0_0 := Aside0.mk hc0_0; clear hr0_0 hc0_0; have HR0_1 := Aside0.mk hr0_1; have HC0_1 := Aside0.mk hc0_1; clear hr0_1 hc0_1; have HB := Aside0.mk (Below.refl w.heap.size w); (have H : ((spec_ReadSector.f k l0_0 l0_1 a1).bind fun bt400 => (if bt400.2 = true then (if bt400.1.toList = ([] : List UInt8) then (some 0) else (if 0 < (bt400.1.size : Int) then (some (wrap64 (bt bt400.1 0))) else (none))) else (some 0))) = some r := h); clear h; replace H := oB H; obtain ⟨⟨t400, t401⟩, A30, H⟩ := H; replace H : (if t401 = true then (if t400.toList = ([] : List UInt8) then (some 0) else (if 0 < (t400.size : Int) then (some (wrap64 (bt t400 0))) else (none))) else (some 0)) = some r := H; have A3 := Aside0.mk A30; clear A30; by_cases c4 : t401 = true
  ·
   subst c4; (have H1 : (if t400.toList = ([] : List UInt8) then (some 0) else (if 0 < (t400.size : Int) then (some (wrap64 (bt t400 0))) else (none))) = some r := by rw [if_pos rfl] at H; exact H); clear H; have H := H1; clear H1; by_cases c5 : t400.toList = ([] : List UInt8)
   · rw [if_pos c5] at H; have c5b0 : (t400.toList == ([] : List UInt8)) = true := beq_iff_eq.mpr c5; have c5b1 : (t400.toList != ([] : List UInt8)) = false := bne_eq_false_iff_eq.mpr c5; clear c5; obtain rfl := Option.some.inj H; go_enter Try.func89, Try.ntmps89; (go_wp2_with (first | ((with_reducible refine gate_dst (N := 2) rfl ?_); refine bE (N := 2) (cs := #[.slice A0_0 l0_0.length c0_0, .slice A0_1 l0_1.length c0_1]) (t := 30) ?_; intro gb399 hg w6 hbox hb; have BK399 := Aside0.mk (hbox); have GW399 := gW hg; have GE399 := GW399; replace HB := bS hb; clear hb hbox hg; obtain ⟨hcz7_0, hcz7_1, hfz7_0, hfz7_1⟩ := b2 BK399) | ((with_reducible refine gate_callee (f := 51) rfl ?_); refine gL (some 10) Try.func51 #[.agg #[.slice A0_0 l0_0.length c0_0, .slice A0_1 l0_1.length c0_1], .int .i64 a1] ?_; (with_reducible refine (spec_ReadSector.calls k _ _ l0_0 _ _ l0_1 a1 t400 true _ ?side1 HC0_0.out ?side3 HC0_1.out A3.out).mono ?_); (case side1 => exact cB HR0_0); (case side3 => exact cB HR0_1); rintro e w8 ⟨rfl, hb⟩; refine ⟨_, rfl, ?_⟩; replace BK399 := kB BK399 hb; replace HB := bS hb; (try clear hb); (try clear hb2); (try clear hk); (try clear hi)))); go_ret; exact ⟨eF, bB⟩
   rw [if_neg c5] at H; have c5b0 : (t400.toList == ([] : List UInt8)) = false := beq_eq_false_iff_ne.mpr c5; have c5b1 : (t400.toList != ([] : List UInt8)) = true := bne_iff_ne.mpr c5; by_cases c9 : 0 < (t400.size : Int)
   · rw [if_pos c9] at H; have c9b0 : decide (0 < (t400.size : Int)) = true := decide_eq_true c9; (have c9b1 : decide (0 < t400.size) = true := decide_eq_true (by omega)); clear c9; obtain rfl := Option.some.inj H; go_enter Try.func89, Try.ntmps89; (go_wp2_with (first | ((with_reducible refine gate_dst (N := 2) rfl ?_); refine bE (N := 2) (cs := #[.slice A0_0 l0_0.length c0_0, .slice A0_1 l0_1.length c0_1]) (t := 30) ?_; intro gb399 hg w11 hbox hb; have BK399 := Aside0.mk (hbox); have GW399 := gW hg; have GE399 := GW399; replace HB := bS hb; clear hb hbox hg; obtain ⟨hcz12_0, hcz12_1, hfz12_0, hfz12_1⟩ := b2 BK399) | ((with_reducible refine gate_callee (f := 51) rfl ?_); refine gL (some 10) Try.func51 #[.agg #[.slice A0_0 l0_0.length c0_0, .slice A0_1 l0_1.length c0_1], .int .i64 a1] ?_; (with_reducible refine (spec_ReadSector.calls k _ _ l0_0 _ _ l0_1 a1 t400 true _ ?side1 HC0_0.out ?side3 HC0_1.out A3.out).mono ?_); (case side1 => exact cB HR0_0); (case side3 => exact cB HR0_1); rintro e w13 ⟨rfl, hb⟩; refine ⟨_, rfl, ?_⟩; replace BK399 := kB BK399 hb; replace HB := bS hb; (try clear hb); (try clear hb2); (try clear hk); (try clear hi); have p10 : 0 ≤ (0 : Int) := (by omega); have q10 : 0 < t400.size := (by have : (0 : Int) < (t400.size : Int) := of_decide_eq_true (by first | (with_reducible assumption) | assumption); omega); have hx10 : ∀ h : 0 < t400.size, ((t400[0]'h).toNat : Int) = bt t400 0 := bt_at t400 0; clear p10; have qi10 : (0 < (t400.size : Int)) = True := eq_true (of_decide_eq_true (by first | (with_reducible assumption) | assumption)); replace q10 := eq_true q10))); go_ret; exact ⟨eF, bB⟩
   rw [if_neg c9] at H; (exact absurd H (by simp))
  replace c4 := Bool.eq_false_iff.mpr c4; subst c4; (have H1 : (some 0) = some r := by rw [if_neg (show ¬ (false = true) by decide)] at H; exact H); clear H; have H := H1; clear H1; obtain rfl := Option.some.inj H; go_enter Try.func89, Try.ntmps89; (go_wp2_with (first | ((with_reducible refine gate_dst (N := 2) rfl ?_); refine bE (N := 2) (cs := #[.slice A0_0 l0_0.length c0_0, .slice A0_1 l0_1.length c0_1]) (t := 30) ?_; intro gb399 hg w14 hbox hb; have BK399 := Aside0.mk (hbox); have GW399 := gW hg; have GE399 := GW399; replace HB := bS hb; clear hb hbox hg; obtain ⟨hcz15_0, hcz15_1, hfz15_0, hfz15_1⟩ := b2 BK399) | ((with_reducible refine gate_callee (f := 51) rfl ?_); refine gL (some 10) Try.func51 #[.agg #[.slice A0_0 l0_0.length c0_0, .slice A0_1 l0_1.length c0_1], .int .i64 a1] ?_; (with_reducible refine (spec_ReadSector.calls k _ _ l0_0 _ _ l0_1 a1 t400 false _ ?side1 HC0_0.out ?side3 HC0_1.out A3.out).mono ?_); (case side1 => exact cB HR0_0); (case side3 => exact cB HR0_1); rintro e w16 ⟨rfl, hb⟩; refine ⟨_, rfl, ?_⟩; replace BK399 := kB BK399 hb; replace HB := bS hb; (try clear hb); (try clear hb2); (try clear hk); (try clear hi)))); go_ret; exact ⟨eF, bB⟩

/-! ### spec_CountIn: function 38 -/
def spec_CountIn.f (k : Nat) (l0_0 : List ByteArray) (l0_1 : List (S88)) (a1 : Int) : Option (Int) := (spec_l01In.f a1 0 1).bind fun t403 => (if t403 = true then ((spec_AreaFirst.f a1).bind fun t404 => ((spec_l04Byte.f k l0_0 l0_1 t404).bind fun t405 => (some t405))) else (some 0))
theorem spec_CountIn.mono : ∀ a0 a1 a2 k, LeO (spec_CountIn.f k a0 a1 a2) (spec_CountIn.f (k + 1) a0 a1 a2) := by
  intro a0 a1 a2 k; unfold spec_CountIn.f; (repeat' first | (with_reducible exact spec_l04Byte.mono _ _ _ _) | (with_reducible exact LeO.refl _) | (with_reducible exact LeO.none _) | (with_reducible refine LeO.ite ?_ ?_) | (with_reducible refine LeO.bind ?_ (fun _ => ?_)) | exact spec_l04Byte.mono _ _ _ _ | exact LeO.none _ | refine LeO.ite ?_ ?_ | refine LeO.bind ?_ (fun _ => ?_))
set_option maxHeartbeats 8000000 in
set_option maxRecDepth 100000 in
theorem spec_CountIn.calls (k : Nat) (A0_0 : Option Addr) (c0_0 : Nat) (l0_0 : List ByteArray) (A0_1 : Option Addr) (c0_1 : Nat) (l0_1 : List (S88)) (a1 : Int) (r : Int) (w : World) (hr0_0 : Kd.C Kd.string w A0_0 l0_0.length l0_0) (hc0_0 : l0_0.length ≤ c0_0) (hr0_1 : Kd.C k88 w A0_1 l0_1.length l0_1) (hc0_1 : l0_1.length ≤ c0_1) (h : spec_CountIn.f k l0_0 l0_1 a1 = some r) :
    Calls Try.prog 38 #[.agg #[.slice A0_0 l0_0.length c0_0, .slice A0_1 l0_1.length c0_1], .int .i64 a1] w fun e w' => e = .returned (.int .i64 r) ∧ Below w.heap.size w w' := by
  have hu30 := Try.underlying30; have HR0_0 := Aside0.mk hr0_0; have HC0_0 := Aside0.mk hc0_0; clear hr0_0 hc0_0; have HR0_1 := Aside0.mk hr0_1; have HC0_1 := Aside0.mk hc0_1; clear hr0_1 hc0_1; have HB := Aside0.mk (Below.refl w.heap.size w); (have H : ((spec_l01In.f a1 0 1).bind fun t403 => (if t403 = true then ((spec_AreaFirst.f a1).bind fun t404 => ((spec_l04Byte.f k l0_0 l0_1 t404).bind fun t405 => (some t405))) else (some 0))) = some r := h); clear h; replace H := oB H; obtain ⟨t403, A30, H⟩ := H; (replace H : (if t403 = true then ((spec_AreaFirst.f a1).bind fun t404 => ((spec_l04Byte.f k l0_0 l0_1 t404).bind fun t405 => (some t405))) else (some 0)) = some r := H); have A3 := Aside0.mk A30; clear A30; by_cases c4 : t403 = true
  ·
   subst c4; (have H1 : ((spec_AreaFirst.f a1).bind fun t404 => ((spec_l04Byte.f k l0_0 l0_1 t404).bind fun t405 => (some t405))) = some r := by rw [if_pos rfl] at H; exact H); clear H; have H := H1; clear H1; replace H := oB H; obtain ⟨t404, A50, H⟩ := H; (replace H : ((spec_l04Byte.f k l0_0 l0_1 t404).bind fun t405 => (some t405)) = some r := H); have A5 := Aside0.mk A50; clear A50; replace H := oB H; obtain ⟨t405, A60, H⟩ := H; replace H : (some t405) = some r := H; have A6 := Aside0.mk A60; clear A60; obtain rfl := Option.some.inj H; go_enter Try.func38, Try.ntmps38; (try go_wp2_with (first | ((with_reducible refine gate_dst (N := 2) rfl ?_); refine bE (N := 2) (cs := #[.slice A0_0 l0_0.length c0_0, .slice A0_1 l0_1.length c0_1]) (t := 30) ?_; intro gb402 hg w7 hbox hb; have BK402 := Aside0.mk (hbox); have GW402 := gW hg; have GE402 := GW402; replace HB := bS hb; clear hb hbox hg) | ((with_reducible refine gate_callee (f := 80) rfl ?_); refine gL (some 6) Try.func80 #[.int .i64 a1, .int .i64 0, .int .i64 1] ?_; (with_reducible refine (spec_l01In.calls a1 0 1 true _ A3.out).mono ?_); rintro e w' ⟨rfl, ⟨nd, rfl⟩⟩; refine ⟨_, rfl, ?_⟩))); (try (rw [drewN_self w7]; generalize hq_ : World.drewN w7 _ = w7; have n0_ : Aside0 (w7.heap[gb402]? = some (.cells #[.slice A0_0 l0_0.length c0_0, .slice A0_1 l0_1.length c0_1] 30 (0, 0))) := ⟨by rw [← hq_]; exact (bk BK402.out)⟩; have n1_ : Aside0 (Below w.heap.size w w7) := ⟨by rw [← hq_]; exact bB⟩; clear BK402 HB hq_; have BK402 := n0_; have HB := n1_; clear n0_ n1_)); replace BK402 := Aside0.mk (blk_drew BK402.out); replace HB := Aside0.mk (below_drew1 HB.out); (refine start_ (n := 5) (S := fun w' => w'.cell? ⟨gb402, 0, none⟩ = some (.slice A0_0 l0_0.length c0_0) ∧ w'.cell? ⟨gb402, 1, none⟩ = some (.slice A0_1 l0_1.length c0_1)) (ds := []) #[F,F,F,F,F] (by kernel_rfl) rfl rfl (b3 BK402) (fun hHeld => ?_)); generalize w7.drew = w8 at BK402 HB hHeld ⊢; (refine pure_ (i := 1) (N := some 9) (v := ?_) (a' := ?_) #[F,T,F,F,F] rfl rfl (by kernel_rfl) (fun _ _ _ h => h) (Or.inl ⟨by rfl, ?_⟩) ?_ ?_); rotate_left
   · intro w'; go_simp; (with_reducible rfl)
   rotate_left
   · simp only [Act.put, lB, lZ, lS, i64_w, i32_w]; rfl
   (refine take_ (i := 0) (N := some 8) (v := ?_) (a' := ?_) #[T,T,F,F,F] rfl rfl (by kernel_rfl) (fun _ _ _ h => h) (Or.inl ⟨by rfl, ?_⟩) hHeld ?_ ?_); rotate_left
   · rintro w' ⟨s0, s1⟩; go_simp; (with_reducible rfl)
   rotate_left
   · simp only [Act.put, lB, lZ, lS, i64_w, i32_w]; rfl
   (refine one_ (i := 2) (N := some 10) #[T,T,T,F,F] rfl rfl (by kernel_rfl) (by decide) (fun K hK => ?_)); (refine gO Try.func40 #[.int .i64 a1] ?_); (with_reducible refine (spec_AreaFirst.calls a1 t404 _ A5.out).mono ?_); rintro e w' ⟨rfl, ⟨nd, rfl⟩⟩; refine ⟨_, rfl, ?_⟩; (refine hK.out _ _ (b3 BK402) (fun hHeld => ?_)); clear hK K; refine norm_ (a' := ?_) ?_ ?_; rotate_left
   · show Act.put _ (some 10) _ = _; simp only [Act.put, lB, lZ, lS, i64_w, i32_w]; rfl
   (refine one_ (i := 3) (N := some 11) #[T,T,T,T,F] rfl rfl (by kernel_rfl) (by decide) (fun K hK => ?_)); (refine gO Try.func89 #[.agg #[.slice A0_0 l0_0.length c0_0, .slice A0_1 l0_1.length c0_1], .int .i64 t404] ?_); (with_reducible refine (spec_l04Byte.calls k _ _ l0_0 _ _ l0_1 t404 t405 _ ?side1 HC0_0.out ?side3 HC0_1.out A6.out).mono ?_); (case side1 => repeat (first | exact (Kd.C_below HR0_0.out bB) | (with_reducible refine Kd.C_alloc ?_ _) | (with_reducible refine Kd.C_drewN ?_ _) | (with_reducible refine Kd.C_drew ?_))); (case side3 => repeat (first | exact (Kd.C_below HR0_1.out bB) | (with_reducible refine Kd.C_alloc ?_ _) | (with_reducible refine Kd.C_drewN ?_ _) | (with_reducible refine Kd.C_drew ?_))); rintro e w9 ⟨rfl, hb⟩; refine ⟨_, rfl, ?_⟩; replace BK402 := kB BK402 hb; replace HB := bS hb; (try clear hb); (try clear hb2); (try clear hk); (try clear hi); (refine hK.out _ _ (b3 BK402) (fun hHeld => ?_)); clear hK K; refine norm_ (a' := ?_) ?_ ?_; rotate_left
   · show Act.put _ (some 11) _ = _; simp only [Act.put, lB, lZ, lS, i64_w, i32_w]; rfl
   (refine pure_ (i := 4) (N := some 4) (v := ?_) (a' := ?_) #[T,T,T,T,T] rfl rfl (by kernel_rfl) (fun _ _ _ h => h) (Or.inl ⟨by rfl, ?_⟩) ?_ ?_); rotate_left
   · intro w'; go_simp; (with_reducible rfl)
   rotate_left
   · simp only [Act.put, lB, lZ, lS, i64_w, i32_w]; rfl
   (refine done_ (by kernel_rfl) ?_); (try go_wp2); go_ret; exact ⟨eF, bB⟩
  replace c4 := Bool.eq_false_iff.mpr c4; subst c4; (have H1 : (some 0) = some r := by rw [if_neg (show ¬ (false = true) by decide)] at H; exact H); clear H; have H := H1; clear H1; obtain rfl := Option.some.inj H; go_enter Try.func38, Try.ntmps38; (go_wp2_with (first | ((with_reducible refine gate_dst (N := 2) rfl ?_); refine bE (N := 2) (cs := #[.slice A0_0 l0_0.length c0_0, .slice A0_1 l0_1.length c0_1]) (t := 30) ?_; intro gb402 hg w10 hbox hb; have BK402 := Aside0.mk (hbox); have GW402 := gW hg; have GE402 := GW402; replace HB := bS hb; clear hb hbox hg) | ((with_reducible refine gate_callee (f := 80) rfl ?_); refine gL (some 6) Try.func80 #[.int .i64 a1, .int .i64 0, .int .i64 1] ?_; (with_reducible refine (spec_l01In.calls a1 0 1 false _ A3.out).mono ?_); rintro e w' ⟨rfl, ⟨nd, rfl⟩⟩; refine ⟨_, rfl, ?_⟩))); go_ret; exact ⟨eF, bB⟩

/-! ### spec_SectorText: function 54 -/
mutual
def spec_SectorText.l0 : Nat → Int → Int → ByteArray → Int → List ByteArray → List (S88) → Option (ByteArray × Bool)
  | 0, _, _, _, _, _, _ => none
  | k + 1, x1, x2, x8, x9, x407000, x407001 => if x9 < x2 then (if x1 < 0 then (spec_SectorText.j1 k x1 x2 x8 x9 true x407000 x407001) else (spec_SectorText.j1 k x1 x2 x8 x9 (decide (x1 > (x407000.length : Int))) x407000 x407001)) else (some (x8, true))
def spec_SectorText.j1 : Nat → Int → Int → ByteArray → Int → Bool → List ByteArray → List (S88) → Option (ByteArray × Bool)
  | 0, _, _, _, _, _, _, _ => none
  | k + 1, x1, x2, x8, x9, x28, x407000, x407001 => if x28 = true then (some ((⟨#[]⟩ : ByteArray), false)) else ((spec_ReadSector.f k x407000 x407001 (wrap64 (x1 + x9))).bind fun bt408 => (if bt408.2 = true then (if x8.size + bt408.1.size ≤ 9223372036854775807 then (spec_SectorText.l0 k x1 x2 (x8 ++ bt408.1) (wrap64 (x9 + 1)) x407000 x407001) else (none)) else (some ((⟨#[]⟩ : ByteArray), false))))
end
def spec_SectorText.f (k : Nat) (l0_0 : List ByteArray) (l0_1 : List (S88)) (a1 : Int) (a2 : Int) : Option (ByteArray × Bool) := (spec_l01In.f a2 0 100).bind fun t407 => (if t407 = true then (spec_SectorText.l0 k a1 a2 (⟨#[]⟩ : ByteArray) 0 l0_0 l0_1) else (some ((⟨#[]⟩ : ByteArray), false)))
theorem spec_SectorText.mono_l : ∀ k, (∀ y0 y1 y2 y3 y4 y5, LeO (spec_SectorText.l0 k y0 y1 y2 y3 y4 y5) (spec_SectorText.l0 (k + 1) y0 y1 y2 y3 y4 y5)) ∧ (∀ y0 y1 y2 y3 y4 y5 y6, LeO (spec_SectorText.j1 k y0 y1 y2 y3 y4 y5 y6) (spec_SectorText.j1 (k + 1) y0 y1 y2 y3 y4 y5 y6))
  | 0 => ⟨fun _ _ _ _ _ _ r h => by simp [spec_SectorText.l0] at h, fun _ _ _ _ _ _ _ r h => by simp [spec_SectorText.j1] at h⟩
  | k + 1 => by
    obtain ⟨ih0, ih1⟩ := spec_SectorText.mono_l k
    refine ⟨?_, ?_⟩
    · intro y0 y1 y2 y3 y4 y5
      unfold spec_SectorText.l0
      repeat' first
      | (with_reducible exact ih0 _ _ _ _ _ _)
      | (with_reducible exact ih1 _ _ _ _ _ _ _)
      | (with_reducible exact spec_ReadSector.mono _ _ _ _)
      | (with_reducible exact LeO.refl _)
      | (with_reducible exact LeO.none _)
      | (with_reducible refine LeO.ite ?_ ?_)
      | (with_reducible refine LeO.bind ?_ (fun _ => ?_))
      | exact ih0 _ _ _ _ _ _
      | exact ih1 _ _ _ _ _ _ _
      | exact spec_ReadSector.mono _ _ _ _
      | exact LeO.none _
      | refine LeO.ite ?_ ?_
      | refine LeO.bind ?_ (fun _ => ?_)
    · intro y0 y1 y2 y3 y4 y5 y6
      unfold spec_SectorText.j1
      repeat' first
      | (with_reducible exact ih0 _ _ _ _ _ _)
      | (with_reducible exact ih1 _ _ _ _ _ _ _)
      | (with_reducible exact spec_ReadSector.mono _ _ _ _)
      | (with_reducible exact LeO.refl _)
      | (with_reducible exact LeO.none _)
      | (with_reducible refine LeO.ite ?_ ?_)
      | (with_reducible refine LeO.bind ?_ (fun _ => ?_))
      | exact ih0 _ _ _ _ _ _
      | exact ih1 _ _ _ _ _ _ _
      | exact spec_ReadSector.mono _ _ _ _
      | exact LeO.none _
      | refine LeO.ite ?_ ?_
      | refine LeO.bind ?_ (fun _ => ?_)
theorem spec_SectorText.mono : ∀ a0 a1 a2 a3 k, LeO (spec_SectorText.f k a0 a1 a2 a3) (spec_SectorText.f (k + 1) a0 a1 a2 a3) := by
  intro a0 a1 a2 a3 k; obtain ⟨ih0, ih1⟩ := spec_SectorText.mono_l k; unfold spec_SectorText.f; (repeat' first | (with_reducible exact ih0 _ _ _ _ _ _) | (with_reducible exact ih1 _ _ _ _ _ _ _) | (with_reducible exact spec_ReadSector.mono _ _ _ _) | (with_reducible exact LeO.refl _) | (with_reducible exact LeO.none _) | (with_reducible refine LeO.ite ?_ ?_) | (with_reducible refine LeO.bind ?_ (fun _ => ?_)) | exact ih0 _ _ _ _ _ _ | exact ih1 _ _ _ _ _ _ _ | exact spec_ReadSector.mono _ _ _ _ | exact LeO.none _ | refine LeO.ite ?_ ?_ | refine LeO.bind ?_ (fun _ => ?_))
set_option maxHeartbeats 8000000 in
set_option maxRecDepth 100000 in
theorem spec_SectorText.calls (k : Nat) (A0_0 : Option Addr) (c0_0 : Nat) (l0_0 : List ByteArray) (A0_1 : Option Addr) (c0_1 : Nat) (l0_1 : List (S88)) (a1 : Int) (a2 : Int) (r1 : ByteArray) (r2 : Bool) (w : World) (hr0_0 : Kd.C Kd.string w A0_0 l0_0.length l0_0) (hc0_0 : l0_0.length ≤ c0_0) (hr0_1 : Kd.C k88 w A0_1 l0_1.length l0_1) (hc0_1 : l0_1.length ≤ c0_1) (h : spec_SectorText.f k l0_0 l0_1 a1 a2 = some (r1, r2)) :
    Calls Try.prog 54 #[.agg #[.slice A0_0 l0_0.length c0_0, .slice A0_1 l0_1.length c0_1], .int .i64 a1, .int .i64 a2] w fun e w' => e = .returned (.tuple #[.string r1, .bool r2]) ∧ Below w.heap.size w w' := by
  have hu30 := Try.underlying30; have HR0_0 := Aside0.mk hr0_0; have HC0_0 := Aside0.mk hc0_0; clear hr0_0 hc0_0; have HR0_1 := Aside0.mk hr0_1; have HC0_1 := Aside0.mk hc0_1; clear hr0_1 hc0_1; have HB := Aside0.mk (Below.refl w.heap.size w); (have H : ((spec_l01In.f a2 0 100).bind fun t407 => (if t407 = true then (spec_SectorText.l0 k a1 a2 (⟨#[]⟩ : ByteArray) 0 l0_0 l0_1) else (some ((⟨#[]⟩ : ByteArray), false)))) = some (r1, r2) := h); clear h; replace H := oB H; obtain ⟨t407, A40, H⟩ := H; replace H : (if t407 = true then (spec_SectorText.l0 k a1 a2 (⟨#[]⟩ : ByteArray) 0 l0_0 l0_1) else (some ((⟨#[]⟩ : ByteArray), false))) = some (r1, r2) := H; have A4 := Aside0.mk A40; clear A40; by_cases c5 : t407 = true
  ·
   subst c5; (have H1 : (spec_SectorText.l0 k a1 a2 (⟨#[]⟩ : ByteArray) 0 l0_0 l0_1) = some (r1, r2) := by rw [if_pos rfl] at H; exact H); clear H; have H := H1; clear H1; have H' := Aside0.mk H; clear H; go_enter Try.func54, Try.ntmps54; (go_wp2_with (first | ((with_reducible refine gate_dst (N := 3) rfl ?_); (try (refine gate_guard (by rfl) ?_; dsimp only)); refine bE (N := 3) (cs := #[.slice A0_0 l0_0.length c0_0, .slice A0_1 l0_1.length c0_1]) (t := 30) ?_; intro gb406 hg w6 hbox hb; have BK406 := Aside0.mk (hbox); have GW406 := gW hg; have GE406 := GW406; replace HB := bS hb; clear hb hbox hg) | ((with_reducible refine gate_callee (f := 80) rfl ?_); refine gL (some 13) Try.func80 #[.int .i64 a2, .int .i64 0, .int .i64 100] ?_; (with_reducible refine (spec_l01In.calls a2 0 100 true _ A4.out).mono ?_); rintro e w' ⟨rfl, ⟨nd, rfl⟩⟩; refine ⟨_, rfl, ?_⟩))); (go_loopg [8, 9] k (fun kq v8 v9 w' => ∃ (x8_1 : ByteArray) (x9_1 : Int), v8 = .string x8_1 ∧ v9 = .int .i64 x9_1 ∧ Aside0 (spec_SectorText.l0 kq a1 a2 x8_1 x9_1 l0_0 l0_1 = some (r1, r2)) ∧ Aside0 (kq ≤ k) ∧ Aside0 (w'.heap[gb406]? = some (.cells #[(.slice A0_0 l0_0.length c0_0), (.slice A0_1 l0_1.length c0_1)] 30 (0, 0))) ∧ Aside0 (Below w.heap.size w w'))); (case atStart => exact ⟨((⟨#[]⟩ : ByteArray)), (0), rS, rS, H', ⟨Nat.le_refl _⟩, ⟨bk BK406.out⟩, ⟨bB⟩⟩)
   case round =>
    clear H'; (try clear p2); (try clear c5); obtain ⟨x8_1, x9_1, rfl, rfl, HA, HK1, BK406, HB⟩ := hrel
    cases gk with
    | zero => exact absurd HA.out (by simp [spec_SectorText.l0])
    | succ k1 =>
     have H := HA.out; clear HA; simp only [spec_SectorText.l0] at H; by_cases c7 : x9_1 < a2
     ·
      rw [if_pos c7] at H; have c7b0 : decide (x9_1 < a2) = true := decide_eq_true c7; clear c7; have HC8 := Aside0.mk H; clear H; go_upto_region 7 with (fail); (go_cut [28] (fun v28 wc => ∃ (kq : Nat) (x28_7 : Bool), v28 = .bool x28_7 ∧ Aside0 (spec_SectorText.j1 kq a1 a2 x8_1 x9_1 x28_7 l0_0 l0_1 = some (r1, r2)) ∧ Aside0 (kq ≤ k1) ∧ Aside0 (wc.heap[gb406]? = some (.cells #[(.slice A0_0 l0_0.length c0_0), (.slice A0_1 l0_1.length c0_1)] 30 (0, 0))) ∧ Aside0 (Below w.heap.size w wc)))
      case first =>
       have H := HC8.out; clear HC8; by_cases c9 : a1 < 0
       · rw [if_pos c9] at H; have c9b0 : decide (a1 < 0) = true := decide_eq_true c9; clear c9; (first | rw [c9b0] | (simp only [i64_w, i32_w]; rw [c9b0]) | skip); have H' := Aside0.mk H; clear H; go_wp2; go_meet; (case rel => exact ⟨_, (true), rS, H', ⟨by have := HK1.out; first | omega | exact Nat.le_refl _⟩, ⟨bk BK406.out⟩, ⟨bB⟩⟩)
       rw [if_neg c9] at H; have c9b0 : decide (a1 < 0) = false := decide_eq_false c9; clear c9; (first | rw [c9b0] | (simp only [i64_w, i32_w]; rw [c9b0]) | skip); have H' := Aside0.mk H; clear H; obtain ⟨hcz10_0, hcz10_1, hfz10_0, hfz10_1⟩ := b2 BK406; go_wp2; go_meet; (case rel => exact ⟨_, (decide (a1 > (l0_0.length : Int))), rS, H', ⟨by have := HK1.out; first | omega | exact Nat.le_refl _⟩, ⟨bk BK406.out⟩, ⟨bB⟩⟩)
      case rest =>
       clear HC8; (try clear p2); (try clear c5); (try clear c7); (try clear c7b0); (try clear c8); (try clear c9); (try clear c9b0); (try clear hcz10_0); (try clear hcz10_1); (try clear hfz10_0); (try clear hfz10_1); (try clear p2); obtain ⟨kq, x28_7, rfl, HA, HJ7, BK406, HB⟩ := hcut
       cases kq with
       | zero => exact absurd HA.out (by simp [spec_SectorText.j1])
       | succ kj7 =>
        have H := HA.out; clear HA; simp only [spec_SectorText.j1] at H; by_cases c11 : x28_7 = true
        · subst c11; (have H1 : (some ((⟨#[]⟩ : ByteArray), false)) = some (r1, r2) := by rw [if_pos rfl] at H; exact H); clear H; have H := H1; clear H1; simp only [Option.some.injEq, Prod.mk.injEq] at H; obtain ⟨rfl, rfl⟩ := H; go_wp2; go_ret2; exact ⟨eF, bB⟩
        replace c11 := Bool.eq_false_iff.mpr c11; subst c11; (have H1 : ((spec_ReadSector.f kj7 l0_0 l0_1 (wrap64 (a1 + x9_1))).bind fun bt408 => (if bt408.2 = true then (if x8_1.size + bt408.1.size ≤ 9223372036854775807 then (spec_SectorText.l0 kj7 a1 a2 (x8_1 ++ bt408.1) (wrap64 (x9_1 + 1)) l0_0 l0_1) else (none)) else (some ((⟨#[]⟩ : ByteArray), false)))) = some (r1, r2) := by rw [if_neg (show ¬ (false = true) by decide)] at H; exact H); clear H; have H := H1; clear H1; replace H := oB H; obtain ⟨⟨t408, t409⟩, A120, H⟩ := H; replace H : (if t409 = true then (if x8_1.size + t408.size ≤ 9223372036854775807 then (spec_SectorText.l0 kj7 a1 a2 (x8_1 ++ t408) (wrap64 (x9_1 + 1)) l0_0 l0_1) else (none)) else (some ((⟨#[]⟩ : ByteArray), false))) = some (r1, r2) := H; have A12 := Aside0.mk A120; clear A120; by_cases c13 : t409 = true
        ·
         subst c13; (have H1 : (if x8_1.size + t408.size ≤ 9223372036854775807 then (spec_SectorText.l0 kj7 a1 a2 (x8_1 ++ t408) (wrap64 (x9_1 + 1)) l0_0 l0_1) else (none)) = some (r1, r2) := by rw [if_pos rfl] at H; exact H); clear H; have H := H1; clear H1; by_cases c14 : x8_1.size + t408.size ≤ 9223372036854775807
         · rw [if_pos c14] at H; have c14b0 := eq_true c14; have c14b1 : decide (x8_1.size + t408.size ≤ 9223372036854775807) = true := decide_eq_true c14; (try have c14b2 : (9223372036854775807 < x8_1.size + t408.size) = False := eq_false (Nat.not_lt.2 c14)); have H' := Aside0.mk H; clear H; obtain ⟨hcz15_0, hcz15_1, hfz15_0, hfz15_1⟩ := b2 BK406; (go_wp2_with (first | ((with_reducible refine gate_callee (f := 51) rfl ?_); refine gL (some 34) Try.func51 #[.agg #[.slice A0_0 l0_0.length c0_0, .slice A0_1 l0_1.length c0_1], .int .i64 (wrap64 (a1 + x9_1))] ?_; (with_reducible refine (spec_ReadSector.calls kj7 _ _ l0_0 _ _ l0_1 (wrap64 (a1 + x9_1)) t408 true _ ?side1 HC0_0.out ?side3 HC0_1.out A12.out).mono ?_); (case side1 => exact cB HR0_0); (case side3 => exact cB HR0_1); rintro e w16 ⟨rfl, hb⟩; refine ⟨_, rfl, ?_⟩; replace BK406 := kB BK406 hb; replace HB := bS hb; (try clear hb); (try clear hb2); (try clear hk); (try clear hi)))); go_roundg kj7; (case measure => have := HK1.out; have := HJ7.out; omega); (case rel => exact ⟨(x8_1 ++ t408), (wrap64 (x9_1 + 1)), rS, rS, H', ⟨by have := HK1.out; have := HJ7.out; omega⟩, ⟨bk BK406.out⟩, ⟨bB⟩⟩)
         rw [if_neg c14] at H; (exact absurd H (by simp))
        replace c13 := Bool.eq_false_iff.mpr c13; subst c13; (have H1 : (some ((⟨#[]⟩ : ByteArray), false)) = some (r1, r2) := by rw [if_neg (show ¬ (false = true) by decide)] at H; exact H); clear H; have H := H1; clear H1; simp only [Option.some.injEq, Prod.mk.injEq] at H; obtain ⟨rfl, rfl⟩ := H; obtain ⟨hcz17_0, hcz17_1, hfz17_0, hfz17_1⟩ := b2 BK406; (go_wp2_with (first | ((with_reducible refine gate_callee (f := 51) rfl ?_); refine gL (some 34) Try.func51 #[.agg #[.slice A0_0 l0_0.length c0_0, .slice A0_1 l0_1.length c0_1], .int .i64 (wrap64 (a1 + x9_1))] ?_; (with_reducible refine (spec_ReadSector.calls kj7 _ _ l0_0 _ _ l0_1 (wrap64 (a1 + x9_1)) t408 false _ ?side1 HC0_0.out ?side3 HC0_1.out A12.out).mono ?_); (case side1 => exact cB HR0_0); (case side3 => exact cB HR0_1); rintro e w18 ⟨rfl, hb⟩; refine ⟨_, rfl, ?_⟩; replace BK406 := kB BK406 hb; replace HB := bS hb; (try clear hb); (try clear hb2); (try clear hk); (try clear hi)))); go_ret2; exact ⟨eF, bB⟩
     rw [if_neg c7] at H; have c7b0 : decide (x9_1 < a2) = false := decide_eq_false c7; clear c7; simp only [Option.some.injEq, Prod.mk.injEq] at H; obtain ⟨rfl, rfl⟩ := H; go_wp2; go_ret2; exact ⟨eF, bB⟩
  replace c5 := Bool.eq_false_iff.mpr c5; subst c5; (have H1 : (some ((⟨#[]⟩ : ByteArray), false)) = some (r1, r2) := by rw [if_neg (show ¬ (false = true) by decide)] at H; exact H); clear H; have H := H1; clear H1; simp only [Option.some.injEq, Prod.mk.injEq] at H; obtain ⟨rfl, rfl⟩ := H; go_enter Try.func54, Try.ntmps54; (go_wp2_with (first | ((with_reducible refine gate_dst (N := 3) rfl ?_); (try (refine gate_guard (by rfl) ?_; dsimp only)); refine bE (N := 3) (cs := #[.slice A0_0 l0_0.length c0_0, .slice A0_1 l0_1.length c0_1]) (t := 30) ?_; intro gb406 hg w19 hbox hb; have BK406 := Aside0.mk (hbox); have GW406 := gW hg; have GE406 := GW406; replace HB := bS hb; clear hb hbox hg) | ((with_reducible refine gate_callee (f := 80) rfl ?_); refine gL (some 13) Try.func80 #[.int .i64 a2, .int .i64 0, .int .i64 100] ?_; (with_reducible refine (spec_l01In.calls a2 0 100 false _ A4.out).mono ?_); rintro e w' ⟨rfl, ⟨nd, rfl⟩⟩; refine ⟨_, rfl, ?_⟩))); go_ret2; exact ⟨eF, bB⟩

/-! ### spec_l01Var: function 124 -/
def spec_l01Var.l0 : Nat → Int → List Int → Option (ByteArray)
  | 0, _, _ => none
  | k + 1, x0, x3 => if x0 > 127 then (if x3.length < 140737488355328 then (spec_l01Var.l0 k (wrap64 (Int.tdiv x0 128)) (x3 ++ [(wrap64 ((Int.tmod x0 128) + 128)) % 256])) else (none)) else (if x3.length < 140737488355328 then (some (strOfNums (x3 ++ [(x0) % 256]))) else (none))
def spec_l01Var.f (k : Nat) (a0 : Int) : Option (ByteArray) := spec_l01Var.l0 k a0 (([] : List Int))
theorem spec_l01Var.mono_l : ∀ k, (∀ y0 y1, LeO (spec_l01Var.l0 k y0 y1) (spec_l01Var.l0 (k + 1) y0 y1))
  | 0 => fun _ _ r h => by simp [spec_l01Var.l0] at h
  | k + 1 => by
    have ih0 := spec_l01Var.mono_l k
    · intro y0 y1
      unfold spec_l01Var.l0
      repeat' first
      | (with_reducible exact ih0 _ _)
      | (with_reducible exact LeO.refl _)
      | (with_reducible exact LeO.none _)
      | (with_reducible refine LeO.ite ?_ ?_)
      | (with_reducible refine LeO.bind ?_ (fun _ => ?_))
      | exact ih0 _ _
      | exact LeO.none _
      | refine LeO.ite ?_ ?_
      | refine LeO.bind ?_ (fun _ => ?_)
theorem spec_l01Var.mono : ∀ a0 k, LeO (spec_l01Var.f k a0) (spec_l01Var.f (k + 1) a0) := by
  intro a0 k; have ih0 := spec_l01Var.mono_l k; unfold spec_l01Var.f; (repeat' first | (with_reducible exact ih0 _ _) | (with_reducible exact LeO.refl _) | (with_reducible exact LeO.none _) | (with_reducible refine LeO.ite ?_ ?_) | (with_reducible refine LeO.bind ?_ (fun _ => ?_)) | exact ih0 _ _ | exact LeO.none _ | refine LeO.ite ?_ ?_ | refine LeO.bind ?_ (fun _ => ?_))
set_option maxHeartbeats 8000000 in
set_option maxRecDepth 100000 in
theorem spec_l01Var.calls (k : Nat) (a0 : Int) (r : ByteArray) (w : World) (h : spec_l01Var.f k a0 = some r) :
    Calls Try.prog 124 #[.int .i64 a0] w fun e w' => e = .returned (.string r) ∧ Below w.heap.size w w' := by
  have HB := Aside0.mk (Below.refl w.heap.size w); have H : (spec_l01Var.l0 k a0 (([] : List Int))) = some r := h; clear h; obtain ⟨y410, hy410⟩ : ∃ y_ : List Int, y_ = (([] : List Int)) := ⟨_, rfl⟩; (replace H : (spec_l01Var.l0 k a0 y410) = some r := by first | (rw [hy410]; with_reducible exact H) | (have H2_ := (Option.bind_some _ _).symm.trans H; rw [hy410]; with_reducible exact H2_) | (have H2_ := (Option.bind_some _ _).symm.trans H; with_reducible exact H2_) | with_reducible exact H | (rw [hy410]; exact H) | exact H); have Ny410 := Aside0.mk hy410; clear hy410; have H' := Aside0.mk H; clear H; go_enter Try.func124, Try.ntmps124; (go_wp2_with (first | ((with_reducible refine gate_dst (N := 4) rfl ?_); refine Kd.R_lit (Kd.int .u8) _ 5 ?hg (N := 4) ?hd (xs := ([] : List Int)) (inner := []) (ok := fun _ => True) (okp := fun _ => True) ?hr ?hp (fun _ hk => hk) trivial (Below.refl _ _) (Nat.le_refl _) (by simp) ?_; (case hd => rfl); (case hg => rfl); (case hr => first | (go_simp; done) | (go_simp; rfl)); (case hp => exact (Reps.none _ _)); intro v411 w2 ho3 hb hg_ hnew_; clear hg_ hnew_; (first | rw [← Ny410.out] at ho3 | (simp only [Int.reduceToNat] at ho3; rw [← Ny410.out] at ho3)); have HO412 := rL ho3; replace HB := bS hb; clear hb ho3))); (go_loopg [0, 3] k (fun kq v0 v3 w' => ∃ (x0_1 : Int) (x3_1 : List Int), v0 = .int .i64 x0_1 ∧ Aside0 (spec_l01Var.l0 kq x0_1 x3_1 = some r) ∧ Aside0 (kq ≤ k) ∧ Aside0 (Kd.R (Kd.int .u8) 5 w' w.heap.size (fun _ => True) v3 x3_1) ∧ Aside0 (Below w.heap.size w w'))); (case atStart => exact ⟨(a0), (y410), rS, H', ⟨Nat.le_refl _⟩, ⟨rk HO412.out⟩, ⟨bB⟩⟩)
  case round =>
   clear H'; (try clear c1); (try clear p2); obtain ⟨x0_1, x3_1, rfl, HA, HK1, HO_3, HB⟩ := hrel
   cases gk with
   | zero => exact absurd HA.out (by simp [spec_l01Var.l0])
   | succ k1 =>
    have H := HA.out; clear HA; simp only [spec_l01Var.l0] at H; by_cases c4 : x0_1 > 127
    ·
     rw [if_pos c4] at H; have c4b0 : decide (127 < x0_1) = true := decide_eq_true c4; clear c4; by_cases c5 : x3_1.length < 140737488355328
     · rw [if_pos c5] at H; have LMc5 := Aside0.mk c5; clear c5; obtain ⟨y413, hy413⟩ : ∃ y_ : List Int, y_ = (x3_1 ++ [(wrap64 ((Int.tmod x0_1 128) + 128)) % 256]) := ⟨_, rfl⟩; (replace H : (spec_l01Var.l0 k1 (wrap64 (Int.tdiv x0_1 128)) y413) = some r := by first | (rw [hy413]; with_reducible exact H) | (have H2_ := (Option.bind_some _ _).symm.trans H; rw [hy413]; with_reducible exact H2_) | (have H2_ := (Option.bind_some _ _).symm.trans H; with_reducible exact H2_) | with_reducible exact H | (rw [hy413]; exact H) | exact H); have Ny413 := Aside0.mk hy413; clear hy413; have H' := Aside0.mk H; clear H; (go_wp2_with (first | ((with_reducible refine gate_builtin (b := .append) (xs := #[.tmp 7, .tmp 12]) rfl ?_); at_builtin; refine Kd.R_append (Kd.int .u8) (w0 := w) w.heap.size rfl (.tmp 7) (.tmp 12) 39 5 (.int .u8 0) 1 rfl Try.underlying39 info5 rfl (by decide) (by omega) u3 x3_1 ((wrap64 ((Int.tmod x0_1 128) + 128)) % 256) [.int .u8 ((wrap64 ((Int.tmod x0_1 128) + 128)) % 256)] (fun _ => True) (fun _ => False) rfl rfl ?aP (fun _ hk => hk.elim) ?aF ?aO ?aB ?aS ?aL ?_; (case aP => exact rfl); (case aB => exact bB); (case aF => exact (fun _ _ => trivial)); (case aO => exact (rk HO_3.out)); (case aS => exact (below_size bB)); (case aL => have := LMc5.out; omega); intro v414 w6 ho hb hg hat; rw [← Ny413.out] at ho; have HO415 := Aside0.mk (ho); replace HB := Aside0.mk (hb); clear HO_3 ho hb hg hat))); go_roundg k1; (case measure => have := HK1.out; omega); (case rel => exact ⟨(wrap64 (Int.tdiv x0_1 128)), (y413), rS, H', ⟨by have := HK1.out; omega⟩, ⟨rk HO415.out⟩, ⟨bB⟩⟩)
     rw [if_neg c5] at H; (exact absurd H (by simp))
    rw [if_neg c4] at H; have c4b0 : decide (127 < x0_1) = false := decide_eq_false c4; clear c4; by_cases c7 : x3_1.length < 140737488355328
    · rw [if_pos c7] at H; have LMc7 := Aside0.mk c7; clear c7; obtain ⟨y416, hy416⟩ : ∃ y_ : List Int, y_ = (x3_1 ++ [(x0_1) % 256]) := ⟨_, rfl⟩; (replace H : (some (strOfNums y416)) = some r := by first | (rw [hy416]; with_reducible exact H) | (have H2_ := (Option.bind_some _ _).symm.trans H; rw [hy416]; with_reducible exact H2_) | (have H2_ := (Option.bind_some _ _).symm.trans H; with_reducible exact H2_) | with_reducible exact H | (rw [hy416]; exact H) | exact H); have Ny416 := Aside0.mk hy416; clear hy416; obtain rfl := Option.some.inj H; (go_wp2_with (first | ((with_reducible refine gate_builtin (b := .append) (xs := #[.tmp 16, .tmp 19]) rfl ?_); at_builtin; refine Kd.R_append (Kd.int .u8) (w0 := w) w.heap.size rfl (.tmp 16) (.tmp 19) 39 5 (.int .u8 0) 1 rfl Try.underlying39 info5 rfl (by decide) (by omega) u3 x3_1 ((x0_1) % 256) [.int .u8 ((x0_1) % 256)] (fun _ => True) (fun _ => False) rfl rfl ?aP (fun _ hk => hk.elim) ?aF ?aO ?aB ?aS ?aL ?_; (case aP => exact rfl); (case aB => exact bB); (case aF => exact (fun _ _ => trivial)); (case aO => exact (rk HO_3.out)); (case aS => exact (below_size bB)); (case aL => have := LMc7.out; omega); intro v417 w8 ho hb hg hat; rw [← Ny416.out] at ho; have HO418 := Aside0.mk (ho); replace HB := Aside0.mk (hb); clear HO_3 ho hb hg hat; have hcv9 := own_string (P := Try.prog) Try.underlying39 Try.underlying5 Try.underlying9 (Kd.own_of_R HO418.out)))); go_ret; exact ⟨eF, bB⟩
    rw [if_neg c7] at H; (exact absurd H (by simp))

end Go.Proofs.Ytlmnbgblmackkaa.QFnExactAppendLog
