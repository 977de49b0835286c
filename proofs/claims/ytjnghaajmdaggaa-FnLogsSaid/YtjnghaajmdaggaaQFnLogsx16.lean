/- Sq: Go functions as Lean functions, and that the code comes to what they say: written by this session's program. Conditions: as each theorem states. -/
import Derived.Test.YtjnghaajmdaggaaQFnLogsx0
import Derived.Test.YtjnghaajmdaggaaQFnLogsx15
namespace Go.Proofs.Ytjnghaajmdaggaa.QFnLogs
open Go.RowKit Go.Proofs.YtjnghaajmdaggaaW.PrintWords Go.Proofs.YtjnghaajmdaggaaW.PrintLast Go.Proofs.YtjnghaajmdaggaaW.PrintMore Go.Proofs.YtjnghaajmdaggaaW.Sh
attribute [local go_sem] max2_int min2_int max_two min_two max_three min_three max_four min_four
set_option linter.unusedVariables false
set_option linter.unusedSimpArgs false

def impl_SectorText.l0:Nat→Int→Int→List Int→Int→List ByteArray→List (S78)→Option (ByteArray×Bool)
  | 0,_,_,_,_,_,_=>none
  | k+1,x1,x2,x8,x9,x568000,x568001=>if x9 < x2 then ((impl_ReadSector.f k x568000 x568001 (wrap64 (x1+x9))).bind fun bt569=>(if bt569.2=true then (if x8.length+bt569.1.size < 140737488355328 then (impl_SectorText.l0 k x1 x2 (x8++bytesOf bt569.1) (wrap64 (x9+1)) x568000 x568001) else (none)) else (some ((⟨#[]⟩:ByteArray),false)))) else (some (strOfNums x8,true))
def impl_SectorText.f (k:Nat) (l0_0:List ByteArray) (l0_1:List (S78)) (a1:Int) (a2:Int):Option (ByteArray×Bool):=(impl_within.f a2 0 100).bind fun t568=>(if t568=true then (impl_SectorText.l0 k a1 a2 ([]:List Int) 0 l0_0 l0_1) else (some ((⟨#[]⟩:ByteArray),false)))
theorem impl_SectorText.mono_l:∀ k,(∀ y0 y1 y2 y3 y4 y5,LeO (impl_SectorText.l0 k y0 y1 y2 y3 y4 y5) (impl_SectorText.l0 (k+1) y0 y1 y2 y3 y4 y5))
  | 0=>fun _ _ _ _ _ _ r h=>by simp [impl_SectorText.l0] at h
  | k+1=>by
    have ih0:=impl_SectorText.mono_l k
    · intro y0 y1 y2 y3 y4 y5
      unfold impl_SectorText.l0
      repeat' (with_reducible first|apply ih0|apply impl_ReadSector.mono|exact LeO.refl _|exact LeO.none _|refine LeO.ite ?_ ?_|refine LeO.bind ?_ (fun _=>?_))
theorem impl_SectorText.mono:∀ a0 a1 a2 a3 k,LeO (impl_SectorText.f k a0 a1 a2 a3) (impl_SectorText.f (k+1) a0 a1 a2 a3):=by
  intro a0 a1 a2 a3 k;have ih0:=impl_SectorText.mono_l k;unfold impl_SectorText.f;(repeat' (with_reducible first|apply ih0|apply impl_ReadSector.mono|exact LeO.refl _|exact LeO.none _|refine LeO.ite ?_ ?_|refine LeO.bind ?_ (fun _=>?_)))
set_option maxHeartbeats 8000000 in
set_option maxRecDepth 100000 in
theorem impl_SectorText.calls (k:Nat) (A0_0:Option Addr) (c0_0:Nat) (l0_0:List ByteArray) (A0_1:Option Addr) (c0_1:Nat) (l0_1:List (S78)) (a1:Int) (a2:Int) (r1:ByteArray) (r2:Bool) (w:World) (hr0_0:Kd.C Kd.string w A0_0 l0_0.length l0_0) (hc0_0:l0_0.length≤c0_0) (hr0_1:Kd.C k78 w A0_1 l0_1.length l0_1) (hc0_1:l0_1.length≤c0_1) (h:impl_SectorText.f k l0_0 l0_1 a1 a2=some (r1,r2)) :
    Calls Try.prog 61 #[.agg #[.slice A0_0 l0_0.length c0_0, .slice A0_1 l0_1.length c0_1], .int .i64 a1, .int .i64 a2] w fun e w'=>e=.returned (.tuple #[.string r1, .bool r2])∧Below w.heap.size w w':=by
  have hu30:=Try.underlying30;have HR0_0:=Aside0.mk hr0_0;have HC0_0:=Aside0.mk hc0_0;clear hr0_0 hc0_0;have HR0_1:=Aside0.mk hr0_1;have HC0_1:=Aside0.mk hc0_1;clear hr0_1 hc0_1;have HB:=Aside0.mk (Below.refl w.heap.size w);have H:=h;clear h;unfold impl_SectorText.f at H;replace H:=oB H;obtain⟨t568,A40,H⟩:=H;(try dsimp only at H);have A4:=Aside0.mk A40;clear A40;by_cases c5:t568=true
  ·
   subst c5;rw [if_pos rfl] at H;(try dsimp only at H);have H':=Aside0.mk H;clear H;go_enter Try.func61,Try.ntmps61;(go_wp2_with (first|((with_reducible refine gD 3 ?_);refine bE (N:=3) (cs:=#[.slice A0_0 l0_0.length c0_0, .slice A0_1 l0_1.length c0_1]) (t:=30) ?_;intro gb567 hg w6 hbox hb;have BK567:=Aside0.mk (hbox);have GW567:=gW hg;have GE567:=GW567;replace HB:=bS hb;clear hb hbox hg)|((with_reducible refine gC 91 ?_);refine gL (some 13) Try.func91 #[.int .i64 a2, .int .i64 0, .int .i64 100] ?_;(with_reducible refine (impl_within.calls a2 0 100 true _ A4.out).mono ?_);rintro e w' ⟨rfl,⟨nd,rfl⟩⟩;refine⟨_,rfl,?_⟩)));(go_loopg [8,9] k (fun kq v8 v9 w' => ∃ (x8_1:List Int) (x9_1:Int),v9=.int .i64 x9_1∧Aside0 (impl_SectorText.l0 kq a1 a2 x8_1 x9_1 l0_0 l0_1=some (r1,r2))∧Aside0 (kq≤k)∧Aside0 (Kd.R (Kd.int .u8) 5 w' w.heap.size (fun _=>True) v8 x8_1)∧Aside0 (w'.heap[gb567]?=some (.cells #[(.slice A0_0 l0_0.length c0_0),(.slice A0_1 l0_1.length c0_1)] 30 (0,0)))∧Aside0 (Below w.heap.size w w')));(case atStart=>exact⟨(([]:List Int)),(0),rS,H',⟨Nat.le_refl _⟩,⟨by first|exact Kd.R_nil _ _ _ _ _|exact Kd.N_nil _ _ _ _ _|exact Kd.V_nil _ _ _ _ _|exact Kd.Q_nil _ _ _ _ _|exact Kd.S_nil _ _ _ _ _⟩,⟨bk BK567.out⟩,⟨bB⟩⟩)
   case round =>
    clear H';(try clear p2);(try clear c5);(try clear c6);obtain⟨x8_1,x9_1,rfl,HA,HK1,HO_8,BK567,HB⟩:=hrel
    cases gk with
    | zero=>exact absurd HA.out (by simp [impl_SectorText.l0])
    | succ k1 =>
     have H:=HA.out;clear HA;simp only [impl_SectorText.l0] at H;by_cases c7:x9_1 < a2
     ·
      rw [if_pos c7] at H;have c7b0:decide (x9_1 < a2)=true:=decide_eq_true c7;clear c7;replace H:=oB H;obtain⟨⟨t569,t570⟩,A80,H⟩:=H;(try dsimp only at H);have A8:=Aside0.mk A80;clear A80;by_cases c9:t570=true
      ·
       subst c9;rw [if_pos rfl] at H;(try dsimp only at H);by_cases c10:x8_1.length+t569.size < 140737488355328
       · rw [if_pos c10] at H;have LMc10:=Aside0.mk c10;clear c10;obtain⟨y571,hy571⟩:∃ y_:List Int,y_=(x8_1++bytesOf t569):=⟨_,rfl⟩;(replace H:(impl_SectorText.l0 k1 a1 a2 y571 (wrap64 (x9_1+1)) l0_0 l0_1)=some (r1,r2):=by first|(rw [hy571];with_reducible exact H)|(have H2_:=(Option.bind_some _ _).symm.trans H;rw [hy571];with_reducible exact H2_)|(have H2_:=(Option.bind_some _ _).symm.trans H;with_reducible exact H2_)|with_reducible exact H|(rw [hy571];exact H)|exact H);have Ny571:=Aside0.mk hy571;clear hy571;have H':=Aside0.mk H;clear H;obtain⟨hcz11_0,hcz11_1,hfz11_0,hfz11_1⟩:=b2 BK567;(go_wp2_with (first|((with_reducible refine gC 90 ?_);refine gL (some 25) Try.func90 #[.agg #[.slice A0_0 l0_0.length c0_0, .slice A0_1 l0_1.length c0_1], .int .i64 (wrap64 (a1+x9_1))] ?_;(with_reducible refine (impl_ReadSector.calls k1 _ _ l0_0 _ _ l0_1 (wrap64 (a1+x9_1)) t569 true _ ?side1 HC0_0.out ?side3 HC0_1.out A8.out).mono ?_);(case side1=>exact cB HR0_0);(case side3=>exact cB HR0_1);rintro e w12 ⟨rfl,hb⟩;refine⟨_,rfl,?_⟩;replace HO_8:=rB HO_8 hb;replace BK567:=kB BK567 hb;replace HB:=bS hb;(try clear hb))|(at_builtin;refine print_append_str (w0:=w) w.heap.size rfl (.tmp 30) _ 39 9 5 rfl Try.underlying39 Try.underlying9 info5 u8 x8_1 t569 rfl rfl ?aO ?aB ?aS ?aL ?_;(case aB=>exact bB);(case aO=>exact (Kd.own_of_R (rk HO_8.out)));(case aS=>exact (below_size bB));(case aL=>have:=LMc10.out;omega);intro v572 w13 ho0 hb hg;have ho:=Kd.R_of_own (h1:=fun _=>rfl) (ok:=fun _=>True) ho0 (fun _ _=>trivial);clear ho0;have hat:=True.intro;rw [← Ny571.out] at ho;change Kd.R (Kd.int .u8) 5 w13 w.heap.size (fun _=>True) v572 y571 at ho;have HO573:=Aside0.mk (ho);replace BK567:=Aside0.mk (blk_grown (g:=gb567) (o := .cells #[.slice A0_0 l0_0.length c0_0, .slice A0_1 l0_1.length c0_1] 30 (0,0)) (bk BK567.out) hg (Kd.R_ne HO_8.out BK567.out (by decide)));replace HB:=Aside0.mk (hb);clear HO_8 ho hb hg hat)));go_roundg k1;(case measure=>have:=HK1.out;omega);(case rel=>exact⟨(y571),(wrap64 (x9_1+1)),rS,H',⟨by have:=HK1.out;omega⟩,⟨rk HO573.out⟩,⟨bk BK567.out⟩,⟨bB⟩⟩)
       rw [if_neg c10] at H;(exact absurd H (by simp))
      replace c9:=Bool.eq_false_iff.mpr c9;subst c9;rw [if_neg (show ¬ (false=true) by decide)] at H;(try dsimp only at H);simp only [oI,pI] at H;obtain⟨rfl,rfl⟩:=H;obtain⟨hcz14_0,hcz14_1,hfz14_0,hfz14_1⟩:=b2 BK567;(go_wp2_with (first|((with_reducible refine gC 90 ?_);refine gL (some 25) Try.func90 #[.agg #[.slice A0_0 l0_0.length c0_0, .slice A0_1 l0_1.length c0_1], .int .i64 (wrap64 (a1+x9_1))] ?_;(with_reducible refine (impl_ReadSector.calls k1 _ _ l0_0 _ _ l0_1 (wrap64 (a1+x9_1)) t569 false _ ?side1 HC0_0.out ?side3 HC0_1.out A8.out).mono ?_);(case side1=>exact cB HR0_0);(case side3=>exact cB HR0_1);rintro e w15 ⟨rfl,hb⟩;refine⟨_,rfl,?_⟩;replace HO_8:=rB HO_8 hb;replace BK567:=kB BK567 hb;replace HB:=bS hb;(try clear hb))));go_ret2;exact⟨eF,bB⟩
     rw [if_neg c7] at H;have c7b0:decide (x9_1 < a2)=false:=decide_eq_false c7;clear c7;simp only [oI,pI] at H;obtain⟨rfl,rfl⟩:=H;have hcv16:=own_string (P:=Try.prog) Try.underlying39 Try.underlying5 Try.underlying9 (Kd.own_of_R HO_8.out);go_wp2;go_ret2;exact⟨eF,bB⟩
  replace c5:=Bool.eq_false_iff.mpr c5;subst c5;rw [if_neg (show ¬ (false=true) by decide)] at H;(try dsimp only at H);simp only [oI,pI] at H;obtain⟨rfl,rfl⟩:=H;go_enter Try.func61,Try.ntmps61;(go_wp2_with (first|((with_reducible refine gD 3 ?_);refine bE (N:=3) (cs:=#[.slice A0_0 l0_0.length c0_0, .slice A0_1 l0_1.length c0_1]) (t:=30) ?_;intro gb567 hg w17 hbox hb;have BK567:=Aside0.mk (hbox);have GW567:=gW hg;have GE567:=GW567;replace HB:=bS hb;clear hb hbox hg)|((with_reducible refine gC 91 ?_);refine gL (some 13) Try.func91 #[.int .i64 a2, .int .i64 0, .int .i64 100] ?_;(with_reducible refine (impl_within.calls a2 0 100 false _ A4.out).mono ?_);rintro e w' ⟨rfl,⟨nd,rfl⟩⟩;refine⟨_,rfl,?_⟩)));go_ret2;exact⟨eF,bB⟩

def impl_VarText.l0:Nat→Int→List Int→Option (ByteArray×Bool)
  | 0,_,_=>none
  | k+1,x0,x4=>if x0 > 127 then (if x4.length < 140737488355328 then (impl_VarText.l0 k (wrap64 (Int.tdiv x0 128)) (x4 ++ [(wrap64 ((Int.tmod x0 128)+128)) % 256])) else (none)) else (if x4.length < 140737488355328 then (some (strOfNums (x4 ++ [(x0) % 256]),true)) else (none))
def impl_VarText.f (k:Nat) (a0:Int):Option (ByteArray×Bool):=(impl_within.f a0 0 1000000000).bind fun t574=>(if t574=true then (impl_VarText.l0 k a0 ([]:List Int)) else (some ((⟨#[]⟩:ByteArray),false)))
theorem impl_VarText.mono_l:∀ k,(∀ y0 y1,LeO (impl_VarText.l0 k y0 y1) (impl_VarText.l0 (k+1) y0 y1))
  | 0=>fun _ _ r h=>by simp [impl_VarText.l0] at h
  | k+1=>by
    have ih0:=impl_VarText.mono_l k
    · intro y0 y1
      unfold impl_VarText.l0
      repeat' (with_reducible first|apply ih0|exact LeO.refl _|exact LeO.none _|refine LeO.ite ?_ ?_|refine LeO.bind ?_ (fun _=>?_))
theorem impl_VarText.mono:∀ a0 k,LeO (impl_VarText.f k a0) (impl_VarText.f (k+1) a0):=by
  intro a0 k;have ih0:=impl_VarText.mono_l k;unfold impl_VarText.f;(repeat' (with_reducible first|apply ih0|exact LeO.refl _|exact LeO.none _|refine LeO.ite ?_ ?_|refine LeO.bind ?_ (fun _=>?_)))
set_option maxHeartbeats 8000000 in
set_option maxRecDepth 100000 in
theorem impl_VarText.calls (k:Nat) (a0:Int) (r1:ByteArray) (r2:Bool) (w:World) (h:impl_VarText.f k a0=some (r1,r2)) :
    Calls Try.prog 103 #[.int .i64 a0] w fun e w'=>e=.returned (.tuple #[.string r1, .bool r2])∧Below w.heap.size w w':=by
  have HB:=Aside0.mk (Below.refl w.heap.size w);have H:=h;clear h;unfold impl_VarText.f at H;replace H:=oB H;obtain⟨t574,A20,H⟩:=H;(try dsimp only at H);have A2:=Aside0.mk A20;clear A20;by_cases c3:t574=true
  ·
   subst c3;rw [if_pos rfl] at H;(try dsimp only at H);have H':=Aside0.mk H;clear H;go_enter Try.func103,Try.ntmps103;(go_wp2_with (first|((with_reducible refine gC 91 ?_);refine gL (some 6) Try.func91 #[.int .i64 a0, .int .i64 0, .int .i64 1000000000] ?_;(with_reducible refine (impl_within.calls a0 0 1000000000 true _ A2.out).mono ?_);rintro e w' ⟨rfl,⟨nd,rfl⟩⟩;refine⟨_,rfl,?_⟩)));(go_loopg [0,4] k (fun kq v0 v4 w' => ∃ (x0_1:Int) (x4_1:List Int),v0=.int .i64 x0_1∧Aside0 (impl_VarText.l0 kq x0_1 x4_1=some (r1,r2))∧Aside0 (kq≤k)∧Aside0 (Kd.R (Kd.int .u8) 5 w' w.heap.size (fun _=>True) v4 x4_1)∧Aside0 (Below w.heap.size w w')));(case atStart=>exact⟨(a0),(([]:List Int)),rS,H',⟨Nat.le_refl _⟩,⟨by first|exact Kd.R_nil _ _ _ _ _|exact Kd.N_nil _ _ _ _ _|exact Kd.V_nil _ _ _ _ _|exact Kd.Q_nil _ _ _ _ _|exact Kd.S_nil _ _ _ _ _⟩,⟨bB⟩⟩)
   case round =>
    clear H';(try clear c1);(try clear p2);(try clear c3);obtain⟨x0_1,x4_1,rfl,HA,HK1,HO_4,HB⟩:=hrel
    cases gk with
    | zero=>exact absurd HA.out (by simp [impl_VarText.l0])
    | succ k1 =>
     have H:=HA.out;clear HA;simp only [impl_VarText.l0] at H;by_cases c4:x0_1 > 127
     ·
      rw [if_pos c4] at H;have c4b0:decide (127 < x0_1)=true:=decide_eq_true c4;clear c4;by_cases c5:x4_1.length < 140737488355328
      · rw [if_pos c5] at H;have LMc5:=Aside0.mk c5;clear c5;obtain⟨y575,hy575⟩:∃ y_:List Int,y_=(x4_1 ++ [(wrap64 ((Int.tmod x0_1 128)+128)) % 256]):=⟨_,rfl⟩;(replace H:(impl_VarText.l0 k1 (wrap64 (Int.tdiv x0_1 128)) y575)=some (r1,r2):=by first|(rw [hy575];with_reducible exact H)|(have H2_:=(Option.bind_some _ _).symm.trans H;rw [hy575];with_reducible exact H2_)|(have H2_:=(Option.bind_some _ _).symm.trans H;with_reducible exact H2_)|with_reducible exact H|(rw [hy575];exact H)|exact H);have Ny575:=Aside0.mk hy575;clear hy575;have H':=Aside0.mk H;clear H;(go_wp2_with (first|((with_reducible refine gate_builtin (b := .append) (xs:=#[.tmp 10, .tmp 15]) rfl ?_);at_builtin;refine Kd.R_append (Kd.int .u8) (w0:=w) w.heap.size rfl (.tmp 10) (.tmp 15) 39 5 (.int .u8 0) 1 rfl Try.underlying39 info5 rfl (by decide) (by omega) u4 x4_1 ((wrap64 ((Int.tmod x0_1 128)+128)) % 256) [.int .u8 ((wrap64 ((Int.tmod x0_1 128)+128)) % 256)] (fun _=>True) (fun _=>False) rfl rfl ?aP (fun _ hk=>hk.elim) ?aF ?aO ?aB ?aS ?aL ?_;(case aP=>exact rfl);(case aB=>exact bB);(case aF=>exact (fun _ _=>trivial));(case aO=>exact (rk HO_4.out));(case aS=>exact (below_size bB));(case aL=>have:=LMc5.out;omega);intro v576 w6 ho hb hg hat;rw [← Ny575.out] at ho;have HO577:=Aside0.mk (ho);replace HB:=Aside0.mk (hb);clear HO_4 ho hb hg hat)));go_roundg k1;(case measure=>have:=HK1.out;omega);(case rel=>exact⟨(wrap64 (Int.tdiv x0_1 128)),(y575),rS,H',⟨by have:=HK1.out;omega⟩,⟨rk HO577.out⟩,⟨bB⟩⟩)
      rw [if_neg c5] at H;(exact absurd H (by simp))
     rw [if_neg c4] at H;have c4b0:decide (127 < x0_1)=false:=decide_eq_false c4;clear c4;by_cases c7:x4_1.length < 140737488355328
     · rw [if_pos c7] at H;have LMc7:=Aside0.mk c7;clear c7;obtain⟨y578,hy578⟩:∃ y_:List Int,y_=(x4_1 ++ [(x0_1) % 256]):=⟨_,rfl⟩;(replace H:(some (strOfNums y578,true))=some (r1,r2):=by first|(rw [hy578];with_reducible exact H)|(have H2_:=(Option.bind_some _ _).symm.trans H;rw [hy578];with_reducible exact H2_)|(have H2_:=(Option.bind_some _ _).symm.trans H;with_reducible exact H2_)|with_reducible exact H|(rw [hy578];exact H)|exact H);have Ny578:=Aside0.mk hy578;clear hy578;simp only [oI,pI] at H;obtain⟨rfl,rfl⟩:=H;(go_wp2_with (first|((with_reducible refine gate_builtin (b := .append) (xs:=#[.tmp 19, .tmp 22]) rfl ?_);at_builtin;refine Kd.R_append (Kd.int .u8) (w0:=w) w.heap.size rfl (.tmp 19) (.tmp 22) 39 5 (.int .u8 0) 1 rfl Try.underlying39 info5 rfl (by decide) (by omega) u4 x4_1 ((x0_1) % 256) [.int .u8 ((x0_1) % 256)] (fun _=>True) (fun _=>False) rfl rfl ?aP (fun _ hk=>hk.elim) ?aF ?aO ?aB ?aS ?aL ?_;(case aP=>exact rfl);(case aB=>exact bB);(case aF=>exact (fun _ _=>trivial));(case aO=>exact (rk HO_4.out));(case aS=>exact (below_size bB));(case aL=>have:=LMc7.out;omega);intro v579 w8 ho hb hg hat;rw [← Ny578.out] at ho;have HO580:=Aside0.mk (ho);replace HB:=Aside0.mk (hb);clear HO_4 ho hb hg hat;have hcv9:=own_string (P:=Try.prog) Try.underlying39 Try.underlying5 Try.underlying9 (Kd.own_of_R HO580.out))));go_ret2;exact⟨eF,bB⟩
     rw [if_neg c7] at H;(exact absurd H (by simp))
  replace c3:=Bool.eq_false_iff.mpr c3;subst c3;rw [if_neg (show ¬ (false=true) by decide)] at H;(try dsimp only at H);simp only [oI,pI] at H;obtain⟨rfl,rfl⟩:=H;go_enter Try.func103,Try.ntmps103;(go_wp2_with (first|((with_reducible refine gC 91 ?_);refine gL (some 6) Try.func91 #[.int .i64 a0, .int .i64 0, .int .i64 1000000000] ?_;(with_reducible refine (impl_within.calls a0 0 1000000000 false _ A2.out).mono ?_);rintro e w' ⟨rfl,⟨nd,rfl⟩⟩;refine⟨_,rfl,?_⟩)));go_ret2;exact⟨eF,bB⟩

mutual
def impl_ReadVar.l0:Nat→ByteArray→Int→Int→Int→Option (Int×Int×Bool)
  | 0,_,_,_,_=>none
  | k+1,x0,x1,x7,x8=>if x8 < 5 then (impl_ReadVar.j1 k x0 x1 x7 x8 (decide ((wrap64 (x1+x8)) < (x0.size:Int)))) else (impl_ReadVar.j1 k x0 x1 x7 x8 false)
def impl_ReadVar.j1:Nat→ByteArray→Int→Int→Int→Bool→Option (Int×Int×Bool)
  | 0,_,_,_,_,_=>none
  | k+1,x0,x1,x7,x8,x26=>if x26=true then (if 0≤(wrap64 (x1+x8)) then (if (wrap64 (x1+x8)) < (x0.size:Int) then (if 0≤(wrap64 (7 * x8)) then (if (wrap64 (bt x0 (wrap64 (x1+x8)))) < 128 then ((impl_VarText.f k (wrap64 (x7+(shl .i64 (Int.tmod (wrap64 (bt x0 (wrap64 (x1+x8)))) 128) (wrap64 (7 * x8)))))).bind fun bt582=>(if bt582.2=true then (if (bt582.1.size:Int)=(wrap64 (x8+1)) then (some (wrap64 (x7+(shl .i64 (Int.tmod (wrap64 (bt x0 (wrap64 (x1+x8)))) 128) (wrap64 (7 * x8)))),wrap64 ((wrap64 (x1+x8))+1),true)) else (some (0,0,false))) else (some (0,0,false)))) else (impl_ReadVar.l0 k x0 x1 (wrap64 (x7+(shl .i64 (Int.tmod (wrap64 (bt x0 (wrap64 (x1+x8)))) 128) (wrap64 (7 * x8))))) (wrap64 (x8+1)))) else (none)) else (none)) else (none)) else (some (0,0,false))
end
def impl_ReadVar.f (k:Nat) (a0:ByteArray) (a1:Int):Option (Int×Int×Bool):=(impl_within.f a1 0 (a0.size:Int)).bind fun t581=>(if t581=true then (impl_ReadVar.l0 k a0 a1 0 0) else (some (0,0,false)))
theorem impl_ReadVar.mono_l:∀ k,(∀ y0 y1 y2 y3,LeO (impl_ReadVar.l0 k y0 y1 y2 y3) (impl_ReadVar.l0 (k+1) y0 y1 y2 y3))∧(∀ y0 y1 y2 y3 y4,LeO (impl_ReadVar.j1 k y0 y1 y2 y3 y4) (impl_ReadVar.j1 (k+1) y0 y1 y2 y3 y4))
  | 0=>⟨fun _ _ _ _ r h=>by simp [impl_ReadVar.l0] at h,fun _ _ _ _ _ r h=>by simp [impl_ReadVar.j1] at h⟩
  | k+1=>by
    obtain⟨ih0,ih1⟩:=impl_ReadVar.mono_l k
    refine⟨?_,?_⟩
    · intro y0 y1 y2 y3
      unfold impl_ReadVar.l0
      repeat' (with_reducible first|apply ih0|apply ih1|apply impl_VarText.mono|exact LeO.refl _|exact LeO.none _|refine LeO.ite ?_ ?_|refine LeO.bind ?_ (fun _=>?_))
    · intro y0 y1 y2 y3 y4
      unfold impl_ReadVar.j1
      repeat' (with_reducible first|apply ih0|apply ih1|apply impl_VarText.mono|exact LeO.refl _|exact LeO.none _|refine LeO.ite ?_ ?_|refine LeO.bind ?_ (fun _=>?_))
theorem impl_ReadVar.mono:∀ a0 a1 k,LeO (impl_ReadVar.f k a0 a1) (impl_ReadVar.f (k+1) a0 a1):=by
  intro a0 a1 k;obtain⟨ih0,ih1⟩:=impl_ReadVar.mono_l k;unfold impl_ReadVar.f;(repeat' (with_reducible first|apply ih0|apply ih1|apply impl_VarText.mono|exact LeO.refl _|exact LeO.none _|refine LeO.ite ?_ ?_|refine LeO.bind ?_ (fun _=>?_)))
set_option maxHeartbeats 8000000 in
set_option maxRecDepth 100000 in
theorem impl_ReadVar.calls (k:Nat) (a0:ByteArray) (a1:Int) (r1:Int) (r2:Int) (r3:Bool) (w:World) (h:impl_ReadVar.f k a0 a1=some (r1,r2,r3)) :
    Calls Try.prog 92 #[.string a0, .int .i64 a1] w fun e w'=>e=.returned (.tuple #[.int .i64 r1, .int .i64 r2, .bool r3])∧Below w.heap.size w w':=by
  have HB:=Aside0.mk (Below.refl w.heap.size w);have H:=h;clear h;unfold impl_ReadVar.f at H;replace H:=oB H;obtain⟨t581,A30,H⟩:=H;(try dsimp only at H);have A3:=Aside0.mk A30;clear A30;by_cases c4:t581=true
  ·
   subst c4;rw [if_pos rfl] at H;(try dsimp only at H);have H':=Aside0.mk H;clear H;go_enter Try.func92,Try.ntmps92;(go_wp2_with (first|((with_reducible refine gC 91 ?_);refine gL (some 15) Try.func91 #[.int .i64 a1, .int .i64 0, .int .i64 (a0.size:Int)] ?_;(with_reducible refine (impl_within.calls a1 0 (a0.size:Int) true _ A3.out).mono ?_);rintro e w' ⟨rfl,⟨nd,rfl⟩⟩;refine⟨_,rfl,?_⟩)));(go_loopg [7,8] k (fun kq v7 v8 w' => ∃ (x7_1:Int) (x8_1:Int),v7=.int .i64 x7_1∧v8=.int .i64 x8_1∧Aside0 (impl_ReadVar.l0 kq a0 a1 x7_1 x8_1=some (r1,r2,r3))∧Aside0 (kq≤k)∧Aside0 (Below w.heap.size w w')));(case atStart=>exact⟨(0),(0),rS,rS,H',⟨Nat.le_refl _⟩,⟨bB⟩⟩)
   case round =>
    clear H';(try clear p2);(try clear c4);obtain⟨x7_1,x8_1,rfl,rfl,HA,HK1,HB⟩:=hrel
    cases gk with
    | zero=>exact absurd HA.out (by simp [impl_ReadVar.l0])
    | succ k1 =>
     have H:=HA.out;clear HA;simp only [impl_ReadVar.l0] at H;have HC5:=Aside0.mk H;clear H;go_upto_region 5 with (fail);(go_cut [26] (fun v26 wc => ∃ (kq:Nat) (x26_4:Bool),v26=.bool x26_4∧Aside0 (impl_ReadVar.j1 kq a0 a1 x7_1 x8_1 x26_4=some (r1,r2,r3))∧Aside0 (kq≤k1)∧Aside0 (Below w.heap.size w wc)))
     case first =>
      have H:=HC5.out;clear HC5;by_cases c6:x8_1 < 5
      · rw [if_pos c6] at H;have c6b0:decide (x8_1 < 5)=true:=decide_eq_true c6;clear c6;(first|rw [c6b0]|(simp only [i64_w,i32_w];rw [c6b0])|skip);have H':=Aside0.mk H;clear H;go_wp2;go_meet;(case rel=>exact⟨_,(decide ((wrap64 (a1+x8_1)) < (a0.size:Int))),rS,H',⟨by have:=HK1.out;first|omega|exact Nat.le_refl _⟩,⟨bB⟩⟩)
      rw [if_neg c6] at H;have c6b0:decide (x8_1 < 5)=false:=decide_eq_false c6;clear c6;(first|rw [c6b0]|(simp only [i64_w,i32_w];rw [c6b0])|skip);have H':=Aside0.mk H;clear H;go_wp2;go_meet;(case rel=>exact⟨_,(false),rS,H',⟨by have:=HK1.out;first|omega|exact Nat.le_refl _⟩,⟨bB⟩⟩)
     case rest =>
      clear HC5;(try clear p2);(try clear c4);(try clear c6);(try clear c6b0);(try clear p6);(try clear p2);obtain⟨kq,x26_4,rfl,HA,HJ4,HB⟩:=hcut
      cases kq with
      | zero=>exact absurd HA.out (by simp [impl_ReadVar.j1])
      | succ kj4 =>
       have H:=HA.out;clear HA;simp only [impl_ReadVar.j1] at H;by_cases c7:x26_4=true
       ·
        subst c7;rw [if_pos rfl] at H;(try dsimp only at H);obtain⟨ji8,hji8⟩:∃ j_:Int,(wrap64 (a1+x8_1))=j_:=⟨_,rfl⟩;(replace H:(if 0≤(ji8) then (if (ji8) < (a0.size:Int) then (if 0≤(wrap64 (7 * x8_1)) then (if (wrap64 (bt a0 (ji8))) < 128 then ((impl_VarText.f kj4 (wrap64 (x7_1+(shl .i64 (Int.tmod (wrap64 (bt a0 (ji8))) 128) (wrap64 (7 * x8_1)))))).bind fun bt582=>(if bt582.2=true then (if (bt582.1.size:Int)=(wrap64 (x8_1+1)) then (some (wrap64 (x7_1+(shl .i64 (Int.tmod (wrap64 (bt a0 (ji8))) 128) (wrap64 (7 * x8_1)))),wrap64 ((ji8)+1),true)) else (some (0,0,false))) else (some (0,0,false)))) else (impl_ReadVar.l0 kj4 a0 a1 (wrap64 (x7_1+(shl .i64 (Int.tmod (wrap64 (bt a0 (ji8))) 128) (wrap64 (7 * x8_1))))) (wrap64 (x8_1+1)))) else (none)) else (none)) else (none))=some (r1,r2,r3):=by first|(rw [hji8] at H;exact H)|(simp only [hji8] at H ⊢;exact H));have hji8w:(IntKind.i64.wrap (a1+x8_1))=ji8:=(i64_w _).trans hji8;by_cases c9:0≤(ji8)
        ·
         rw [if_pos c9] at H;have c9b0:decide (0≤(ji8))=true:=decide_eq_true c9;clear c9;by_cases c10:(ji8) < (a0.size:Int)
         ·
          rw [if_pos c10] at H;have c10b0:decide ((ji8) < (a0.size:Int))=true:=decide_eq_true c10;clear c10;obtain⟨ji12,hji12⟩:∃ j_:Int,(wrap64 (7 * x8_1))=j_:=⟨_,rfl⟩;(replace H:(if 0≤(ji12) then (if (wrap64 (bt a0 (ji8))) < 128 then ((impl_VarText.f kj4 (wrap64 (x7_1+(shl .i64 (Int.tmod (wrap64 (bt a0 (ji8))) 128) (ji12))))).bind fun bt582=>(if bt582.2=true then (if (bt582.1.size:Int)=(wrap64 (x8_1+1)) then (some (wrap64 (x7_1+(shl .i64 (Int.tmod (wrap64 (bt a0 (ji8))) 128) (ji12))),wrap64 ((ji8)+1),true)) else (some (0,0,false))) else (some (0,0,false)))) else (impl_ReadVar.l0 kj4 a0 a1 (wrap64 (x7_1+(shl .i64 (Int.tmod (wrap64 (bt a0 (ji8))) 128) (ji12)))) (wrap64 (x8_1+1)))) else (none))=some (r1,r2,r3):=by first|(rw [hji12] at H;exact H)|(simp only [hji12] at H ⊢;exact H));have hji12w:(IntKind.i64.wrap (7 * x8_1))=ji12:=(i64_w _).trans hji12;by_cases c13:0≤(ji12)
          ·
           rw [if_pos c13] at H;have c13b0:=eq_true c13;have c13b1:decide (0≤(ji12))=true:=decide_eq_true c13;clear c13;obtain⟨ji14,hji14⟩:∃ j_:Int,(shl .i64 (Int.tmod (wrap64 (bt a0 (ji8))) 128) (ji12))=j_:=⟨_,rfl⟩;(replace H:(if (wrap64 (bt a0 (ji8))) < 128 then ((impl_VarText.f kj4 (wrap64 (x7_1+(ji14)))).bind fun bt582=>(if bt582.2=true then (if (bt582.1.size:Int)=(wrap64 (x8_1+1)) then (some (wrap64 (x7_1+(ji14)),wrap64 ((ji8)+1),true)) else (some (0,0,false))) else (some (0,0,false)))) else (impl_ReadVar.l0 kj4 a0 a1 (wrap64 (x7_1+(ji14))) (wrap64 (x8_1+1))))=some (r1,r2,r3):=by first|(rw [hji14] at H;exact H)|(simp only [hji14] at H ⊢;exact H));have hji14_:(IntKind.i64.wrap ((Int.tmod (wrap64 (bt a0 (ji8))) 128) * 2 ^ min (ji12).toNat 64))=ji14:=hji14;have hji14z:(ji12)≤64→(IntKind.i64.wrap ((Int.tmod (wrap64 (bt a0 (ji8))) 128) * 2 ^ (ji12).toNat))=ji14:=shl_small hji14;have hji14y:(wrap64 ((Int.tmod (wrap64 (bt a0 (ji8))) 128) * 2 ^ min (ji12).toNat 64))=ji14:=(i64_w _).symm.trans hji14_;(have hji14x:(ji12)≤64→(wrap64 ((Int.tmod (wrap64 (bt a0 (ji8))) 128) * 2 ^ (ji12).toNat))=ji14:=fun h_=>(i64_w _).symm.trans (hji14z h_));by_cases c15:(wrap64 (bt a0 (ji8))) < 128
           ·
            rw [if_pos c15] at H;have c15b0:decide ((wrap64 (bt a0 (ji8))) < 128)=true:=decide_eq_true c15;clear c15;replace H:=oB H;obtain⟨⟨t582,t583⟩,A160,H⟩:=H;(try dsimp only at H);have A16:=Aside0.mk A160;clear A160;by_cases c17:t583=true
            ·
             subst c17;rw [if_pos rfl] at H;(try dsimp only at H);by_cases c18:(t582.size:Int)=(wrap64 (x8_1+1))
             · rw [if_pos c18] at H;have c18b0:((t582.size:Int)==(wrap64 (x8_1+1)))=true:=beq_iff_eq.mpr c18;have c18b1:((t582.size:Int) != (wrap64 (x8_1+1)))=false:=bne_eq_false_iff_eq.mpr c18;clear c18;simp only [oI,pI] at H;obtain⟨rfl,rfl,rfl⟩:=H;(have p11:0≤((ji8):Int):=of_decide_eq_true (by first|(with_reducible assumption)|assumption));(have q11:(ji8) < (a0.size:Int):=of_decide_eq_true (by first|(with_reducible assumption)|assumption));have hx11:=bt_at a0 (ji8);replace p11:=eq_true p11;replace q11:=eq_true q11;(go_wp2_with (first|((with_reducible refine gC 103 ?_);refine goesL_ (some 46) rfl rfl Try.func103 (by kernel_rfl) rfl #[.int .i64 (wrap64 (x7_1+(ji14)))] rfl (by (try simp only [List.map_toArray,List.map_cons,List.map_nil]);first|done|(simp only [hji14];rfl)|rfl|(simp only [List.length_drop,List.length_take];rfl)) ?_;(with_reducible refine (impl_VarText.calls kj4 (wrap64 (x7_1+(ji14))) t582 true _ A16.out).mono ?_);rintro e w19 ⟨rfl,hb⟩;refine⟨_,rfl,?_⟩;replace HB:=bS hb;(try clear hb))));go_ret3;(exact⟨by first|rfl|(simp [errW_none,errW_some] <;> rfl)|(simp only [← hji8,← hji12,← hji14];first|rfl|(simp [errW_none,errW_some] <;> rfl))|(simp [*,errW_none,errW_some] <;> rfl),bB⟩)
             rw [if_neg c18] at H;have c18b0:((t582.size:Int)==(wrap64 (x8_1+1)))=false:=beq_eq_false_iff_ne.mpr c18;have c18b1:((t582.size:Int) != (wrap64 (x8_1+1)))=true:=bne_iff_ne.mpr c18;simp only [oI,pI] at H;obtain⟨rfl,rfl,rfl⟩:=H;(have p11:0≤((ji8):Int):=of_decide_eq_true (by first|(with_reducible assumption)|assumption));(have q11:(ji8) < (a0.size:Int):=of_decide_eq_true (by first|(with_reducible assumption)|assumption));have hx11:=bt_at a0 (ji8);replace p11:=eq_true p11;replace q11:=eq_true q11;(go_wp2_with (first|((with_reducible refine gC 103 ?_);refine goesL_ (some 46) rfl rfl Try.func103 (by kernel_rfl) rfl #[.int .i64 (wrap64 (x7_1+(ji14)))] rfl (by (try simp only [List.map_toArray,List.map_cons,List.map_nil]);first|done|(simp only [hji14];rfl)|rfl|(simp only [List.length_drop,List.length_take];rfl)) ?_;(with_reducible refine (impl_VarText.calls kj4 (wrap64 (x7_1+(ji14))) t582 true _ A16.out).mono ?_);rintro e w20 ⟨rfl,hb⟩;refine⟨_,rfl,?_⟩;replace HB:=bS hb;(try clear hb))));go_ret3;(exact⟨by first|rfl|(simp [errW_none,errW_some] <;> rfl)|(simp only [← hji8,← hji12,← hji14];first|rfl|(simp [errW_none,errW_some] <;> rfl))|(simp [*,errW_none,errW_some] <;> rfl),bB⟩)
            replace c17:=Bool.eq_false_iff.mpr c17;subst c17;rw [if_neg (show ¬ (false=true) by decide)] at H;(try dsimp only at H);simp only [oI,pI] at H;obtain⟨rfl,rfl,rfl⟩:=H;(have p11:0≤((ji8):Int):=of_decide_eq_true (by first|(with_reducible assumption)|assumption));(have q11:(ji8) < (a0.size:Int):=of_decide_eq_true (by first|(with_reducible assumption)|assumption));have hx11:=bt_at a0 (ji8);replace p11:=eq_true p11;replace q11:=eq_true q11;(go_wp2_with (first|((with_reducible refine gC 103 ?_);refine goesL_ (some 46) rfl rfl Try.func103 (by kernel_rfl) rfl #[.int .i64 (wrap64 (x7_1+(ji14)))] rfl (by (try simp only [List.map_toArray,List.map_cons,List.map_nil]);first|done|(simp only [hji14];rfl)|rfl|(simp only [List.length_drop,List.length_take];rfl)) ?_;(with_reducible refine (impl_VarText.calls kj4 (wrap64 (x7_1+(ji14))) t582 false _ A16.out).mono ?_);rintro e w21 ⟨rfl,hb⟩;refine⟨_,rfl,?_⟩;replace HB:=bS hb;(try clear hb))));go_ret3;(exact⟨by first|rfl|(simp [errW_none,errW_some] <;> rfl)|(simp only [← hji8,← hji12,← hji14];first|rfl|(simp [errW_none,errW_some] <;> rfl))|(simp [*,errW_none,errW_some] <;> rfl),bB⟩)
           rw [if_neg c15] at H;have c15b0:decide ((wrap64 (bt a0 (ji8))) < 128)=false:=decide_eq_false c15;clear c15;have H':=Aside0.mk H;clear H;(have p11:0≤((ji8):Int):=of_decide_eq_true (by first|(with_reducible assumption)|assumption));(have q11:(ji8) < (a0.size:Int):=of_decide_eq_true (by first|(with_reducible assumption)|assumption));have hx11:=bt_at a0 (ji8);replace p11:=eq_true p11;replace q11:=eq_true q11;go_wp2;go_roundg kj4;(case measure=>have:=HK1.out;have:=HJ4.out;omega);(case rel=>exact⟨(wrap64 (x7_1+(ji14))),(wrap64 (x8_1+1)),(by first|rfl|(simp;done)|(simp only [← hji14] <;> (first|rfl|simp))|(simp [*];done)),rS,H',⟨by have:=HK1.out;have:=HJ4.out;omega⟩,⟨bB⟩⟩)
          rw [if_neg c13] at H;(exact absurd H (by simp))
         rw [if_neg c10] at H;(exact absurd H (by simp))
        rw [if_neg c9] at H;(exact absurd H (by simp))
       replace c7:=Bool.eq_false_iff.mpr c7;subst c7;rw [if_neg (show ¬ (false=true) by decide)] at H;(try dsimp only at H);simp only [oI,pI] at H;obtain⟨rfl,rfl,rfl⟩:=H;go_wp2;go_ret3;exact⟨eF,bB⟩
  replace c4:=Bool.eq_false_iff.mpr c4;subst c4;rw [if_neg (show ¬ (false=true) by decide)] at H;(try dsimp only at H);simp only [oI,pI] at H;obtain⟨rfl,rfl,rfl⟩:=H;go_enter Try.func92,Try.ntmps92;(go_wp2_with (first|((with_reducible refine gC 91 ?_);refine gL (some 15) Try.func91 #[.int .i64 a1, .int .i64 0, .int .i64 (a0.size:Int)] ?_;(with_reducible refine (impl_within.calls a1 0 (a0.size:Int) false _ A3.out).mono ?_);rintro e w' ⟨rfl,⟨nd,rfl⟩⟩;refine⟨_,rfl,?_⟩)));go_ret3;exact⟨eF,bB⟩

def impl_ReadShort.f (k:Nat) (a0:ByteArray) (a1:Int):Option (ByteArray×Int×Bool):=(impl_ReadVar.f k a0 a1).bind fun bt584=>(if bt584.2.2=true then (if bt584.1 > 20000 then (some ((⟨#[]⟩:ByteArray),0,false)) else (if bt584.1 > (wrap64 ((a0.size:Int) - bt584.2.1)) then (some ((⟨#[]⟩:ByteArray),0,false)) else (if 0≤bt584.2.1 then (if bt584.2.1≤(wrap64 (bt584.2.1+bt584.1)) then (if (wrap64 (bt584.2.1+bt584.1))≤(a0.size:Int) then (some (a0.extract (bt584.2.1:Int).toNat ((wrap64 (bt584.2.1+bt584.1)):Int).toNat,wrap64 (bt584.2.1+bt584.1),true)) else (none)) else (none)) else (none)))) else (some ((⟨#[]⟩:ByteArray),0,false)))
theorem impl_ReadShort.mono:∀ a0 a1 k,LeO (impl_ReadShort.f k a0 a1) (impl_ReadShort.f (k+1) a0 a1):=by
  intro a0 a1 k;unfold impl_ReadShort.f;(repeat' (with_reducible first|apply impl_ReadVar.mono|exact LeO.refl _|exact LeO.none _|refine LeO.ite ?_ ?_|refine LeO.bind ?_ (fun _=>?_)))
set_option maxHeartbeats 8000000 in
set_option maxRecDepth 100000 in
theorem impl_ReadShort.calls (k:Nat) (a0:ByteArray) (a1:Int) (r1:ByteArray) (r2:Int) (r3:Bool) (w:World) (h:impl_ReadShort.f k a0 a1=some (r1,r2,r3)) :
    Calls Try.prog 63 #[.string a0, .int .i64 a1] w fun e w'=>e=.returned (.tuple #[.string r1, .int .i64 r2, .bool r3])∧Below w.heap.size w w':=by
  have HB:=Aside0.mk (Below.refl w.heap.size w);have H:=h;clear h;unfold impl_ReadShort.f at H;replace H:=oB H;obtain⟨⟨t584,t585,t586⟩,A30,H⟩:=H;(try dsimp only at H);have A3:=Aside0.mk A30;clear A30;by_cases c4:t586=true
  ·
   subst c4;rw [if_pos rfl] at H;(try dsimp only at H);by_cases c5:t584 > 20000
   · rw [if_pos c5] at H;have c5b0:decide (20000 < t584)=true:=decide_eq_true c5;clear c5;simp only [oI,pI] at H;obtain⟨rfl,rfl,rfl⟩:=H;go_enter Try.func63,Try.ntmps63;(go_wp2_with (first|((with_reducible refine gC 92 ?_);refine gL (some 13) Try.func92 #[.string a0, .int .i64 a1] ?_;(with_reducible refine (impl_ReadVar.calls k a0 a1 t584 t585 true _ A3.out).mono ?_);rintro e w6 ⟨rfl,hb⟩;refine⟨_,rfl,?_⟩;replace HB:=bS hb;(try clear hb))));go_ret3;exact⟨eF,bB⟩
   rw [if_neg c5] at H;have c5b0:decide (20000 < t584)=false:=decide_eq_false c5;clear c5;by_cases c7:t584 > (wrap64 ((a0.size:Int) - t585))
   · rw [if_pos c7] at H;have c7b0:decide ((wrap64 ((a0.size:Int) - t585)) < t584)=true:=decide_eq_true c7;clear c7;simp only [oI,pI] at H;obtain⟨rfl,rfl,rfl⟩:=H;go_enter Try.func63,Try.ntmps63;(go_wp2_with (first|((with_reducible refine gC 92 ?_);refine gL (some 13) Try.func92 #[.string a0, .int .i64 a1] ?_;(with_reducible refine (impl_ReadVar.calls k a0 a1 t584 t585 true _ A3.out).mono ?_);rintro e w8 ⟨rfl,hb⟩;refine⟨_,rfl,?_⟩;replace HB:=bS hb;(try clear hb))));go_ret3;exact⟨eF,bB⟩
   rw [if_neg c7] at H;have c7b0:decide ((wrap64 ((a0.size:Int) - t585)) < t584)=false:=decide_eq_false c7;clear c7;by_cases c9:0≤t585
   ·
    rw [if_pos c9] at H;have c9b0:=eq_true c9;have c9b1:decide (0≤t585)=true:=decide_eq_true c9;clear c9;by_cases c10:t585≤(wrap64 (t585+t584))
    ·
     rw [if_pos c10] at H;have c10b0:=eq_true c10;have c10b1:decide (t585≤(wrap64 (t585+t584)))=true:=decide_eq_true c10;by_cases c11:(wrap64 (t585+t584))≤(a0.size:Int)
     · rw [if_pos c11] at H;have c11b0:=eq_true c11;have c11b1:decide ((wrap64 (t585+t584))≤(a0.size:Int))=true:=decide_eq_true c11;simp only [oI,pI] at H;obtain⟨rfl,rfl,rfl⟩:=H;go_enter Try.func63,Try.ntmps63;(go_wp2_with (first|((with_reducible refine gC 92 ?_);refine gL (some 13) Try.func92 #[.string a0, .int .i64 a1] ?_;(with_reducible refine (impl_ReadVar.calls k a0 a1 t584 t585 true _ A3.out).mono ?_);rintro e w12 ⟨rfl,hb⟩;refine⟨_,rfl,?_⟩;replace HB:=bS hb;(try clear hb))));go_ret3;exact⟨eF,bB⟩
     rw [if_neg c11] at H;(exact absurd H (by simp))
    rw [if_neg c10] at H;(exact absurd H (by simp))
   rw [if_neg c9] at H;(exact absurd H (by simp))
  replace c4:=Bool.eq_false_iff.mpr c4;subst c4;rw [if_neg (show ¬ (false=true) by decide)] at H;(try dsimp only at H);simp only [oI,pI] at H;obtain⟨rfl,rfl,rfl⟩:=H;go_enter Try.func63,Try.ntmps63;(go_wp2_with (first|((with_reducible refine gC 92 ?_);refine gL (some 13) Try.func92 #[.string a0, .int .i64 a1] ?_;(with_reducible refine (impl_ReadVar.calls k a0 a1 t584 t585 false _ A3.out).mono ?_);rintro e w13 ⟨rfl,hb⟩;refine⟨_,rfl,?_⟩;replace HB:=bS hb;(try clear hb))));go_ret3;exact⟨eF,bB⟩

end Go.Proofs.Ytjnghaajmdaggaa.QFnLogs
