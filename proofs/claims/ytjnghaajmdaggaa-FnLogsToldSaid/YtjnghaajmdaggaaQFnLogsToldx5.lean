/- Sq: Go functions as Lean functions, and that the code comes to what they say: written by this session's program. Conditions: as each theorem states. -/
import Derived.Test.YtjnghaajmdaggaaQFnLogsToldx0
import Derived.Test.YtjnghaajmdaggaaQFnLogsToldx4
namespace Go.Proofs.Ytjnghaajmdaggaa.QFnLogsTold
open Go.RowKit Go.Proofs.Ytjnghaajmdaggaa.Sf Go.Proofs.YtjnghaajmdaggaaW.PrintWords Go.Proofs.YtjnghaajmdaggaaW.PrintLast Go.Proofs.YtjnghaajmdaggaaW.PrintMore Go.Proofs.YtjnghaajmdaggaaW.Sh
attribute [local go_sem] max2_int min2_int max_two min_two max_three min_three max_four min_four
set_option linter.unusedVariables false
set_option linter.unusedSimpArgs false

mutual
def spec_SectorText.l0:Nat→Int→Int→ByteArray→Int→List ByteArray→List (S78)→Option (ByteArray×Bool)
  | 0,_,_,_,_,_,_=>none
  | k+1,x1,x2,x8,x9,x169000,x169001=>if x9 < x2 then (if x1 < 0 then (spec_SectorText.j1 k x1 x2 x8 x9 true x169000 x169001) else (spec_SectorText.j1 k x1 x2 x8 x9 (decide (x1 > (x169000.length:Int))) x169000 x169001)) else (some (x8,true))
def spec_SectorText.j1:Nat→Int→Int→ByteArray→Int→Bool→List ByteArray→List (S78)→Option (ByteArray×Bool)
  | 0,_,_,_,_,_,_,_=>none
  | k+1,x1,x2,x8,x9,x28,x169000,x169001=>if x28=true then (some ((⟨#[]⟩:ByteArray),false)) else ((spec_ReadSector.f k x169000 x169001 (wrap64 (x1+x9))).bind fun bt170=>(if bt170.2=true then (if x8.size+bt170.1.size≤9223372036854775807 then (spec_SectorText.l0 k x1 x2 (x8++bt170.1) (wrap64 (x9+1)) x169000 x169001) else (none)) else (some ((⟨#[]⟩:ByteArray),false))))
end
def spec_SectorText.f (k:Nat) (l0_0:List ByteArray) (l0_1:List (S78)) (a1:Int) (a2:Int):Option (ByteArray×Bool):=(spec_l01In.f a2 0 100).bind fun t169=>(if t169=true then (spec_SectorText.l0 k a1 a2 (⟨#[]⟩:ByteArray) 0 l0_0 l0_1) else (some ((⟨#[]⟩:ByteArray),false)))
theorem spec_SectorText.mono_l:∀ k,(∀ y0 y1 y2 y3 y4 y5,LeO (spec_SectorText.l0 k y0 y1 y2 y3 y4 y5) (spec_SectorText.l0 (k+1) y0 y1 y2 y3 y4 y5))∧(∀ y0 y1 y2 y3 y4 y5 y6,LeO (spec_SectorText.j1 k y0 y1 y2 y3 y4 y5 y6) (spec_SectorText.j1 (k+1) y0 y1 y2 y3 y4 y5 y6))
  | 0=>⟨fun _ _ _ _ _ _ r h=>by simp [spec_SectorText.l0] at h,fun _ _ _ _ _ _ _ r h=>by simp [spec_SectorText.j1] at h⟩
  | k+1=>by
    obtain⟨ih0,ih1⟩:=spec_SectorText.mono_l k
    refine⟨?_,?_⟩
    · intro y0 y1 y2 y3 y4 y5
      unfold spec_SectorText.l0
      repeat' (with_reducible first|apply ih0|apply ih1|apply spec_ReadSector.mono|exact LeO.refl _|exact LeO.none _|refine LeO.ite ?_ ?_|refine LeO.bind ?_ (fun _=>?_))
    · intro y0 y1 y2 y3 y4 y5 y6
      unfold spec_SectorText.j1
      repeat' (with_reducible first|apply ih0|apply ih1|apply spec_ReadSector.mono|exact LeO.refl _|exact LeO.none _|refine LeO.ite ?_ ?_|refine LeO.bind ?_ (fun _=>?_))
theorem spec_SectorText.mono:∀ a0 a1 a2 a3 k,LeO (spec_SectorText.f k a0 a1 a2 a3) (spec_SectorText.f (k+1) a0 a1 a2 a3):=by
  intro a0 a1 a2 a3 k;obtain⟨ih0,ih1⟩:=spec_SectorText.mono_l k;unfold spec_SectorText.f;(repeat' (with_reducible first|apply ih0|apply ih1|apply spec_ReadSector.mono|exact LeO.refl _|exact LeO.none _|refine LeO.ite ?_ ?_|refine LeO.bind ?_ (fun _=>?_)))
set_option maxHeartbeats 8000000 in
set_option maxRecDepth 100000 in
theorem spec_SectorText.calls (k:Nat) (A0_0:Option Addr) (c0_0:Nat) (l0_0:List ByteArray) (A0_1:Option Addr) (c0_1:Nat) (l0_1:List (S78)) (a1:Int) (a2:Int) (r1:ByteArray) (r2:Bool) (w:World) (hr0_0:Kd.C Kd.string w A0_0 l0_0.length l0_0) (hc0_0:l0_0.length≤c0_0) (hr0_1:Kd.C k78 w A0_1 l0_1.length l0_1) (hc0_1:l0_1.length≤c0_1) (h:spec_SectorText.f k l0_0 l0_1 a1 a2=some (r1,r2)) :
    Calls Try.prog 65 #[.agg #[.slice A0_0 l0_0.length c0_0, .slice A0_1 l0_1.length c0_1], .int .i64 a1, .int .i64 a2] w fun e w'=>e=.returned (.tuple #[.string r1, .bool r2])∧Below w.heap.size w w':=by
  have hu30:=Try.underlying30;have HR0_0:=Aside0.mk hr0_0;have HC0_0:=Aside0.mk hc0_0;clear hr0_0 hc0_0;have HR0_1:=Aside0.mk hr0_1;have HC0_1:=Aside0.mk hc0_1;clear hr0_1 hc0_1;have HB:=Aside0.mk (Below.refl w.heap.size w);have H:=h;clear h;unfold spec_SectorText.f at H;replace H:=oB H;obtain⟨t169,A40,H⟩:=H;(try dsimp only at H);have A4:=Aside0.mk A40;clear A40;by_cases c5:t169=true
  ·
   subst c5;rw [if_pos rfl] at H;(try dsimp only at H);have H':=Aside0.mk H;clear H;go_enter Try.func65,Try.ntmps65;(go_wp2_with (first|((with_reducible refine gD 3 ?_);(try (refine gate_guard (by rfl) ?_;dsimp only));refine bE (N:=3) (cs:=#[.slice A0_0 l0_0.length c0_0, .slice A0_1 l0_1.length c0_1]) (t:=30) ?_;intro gb168 hg w6 hbox hb;have BK168:=Aside0.mk (hbox);have GW168:=gW hg;have GE168:=GW168;replace HB:=bS hb;clear hb hbox hg)|((with_reducible refine gC 64 ?_);refine gL (some 13) Try.func64 #[.int .i64 a2, .int .i64 0, .int .i64 100] ?_;(with_reducible refine (spec_l01In.calls a2 0 100 true _ A4.out).mono ?_);rintro e w' ⟨rfl,⟨nd,rfl⟩⟩;refine⟨_,rfl,?_⟩)));(go_loopg [8,9] k (fun kq v8 v9 w' => ∃ (x8_1:ByteArray) (x9_1:Int),v8=.string x8_1∧v9=.int .i64 x9_1∧Aside0 (spec_SectorText.l0 kq a1 a2 x8_1 x9_1 l0_0 l0_1=some (r1,r2))∧Aside0 (kq≤k)∧Aside0 (w'.heap[gb168]?=some (.cells #[(.slice A0_0 l0_0.length c0_0),(.slice A0_1 l0_1.length c0_1)] 30 (0,0)))∧Aside0 (Below w.heap.size w w')));(case atStart=>exact⟨((⟨#[]⟩:ByteArray)),(0),rS,rS,H',⟨Nat.le_refl _⟩,⟨bk BK168.out⟩,⟨bB⟩⟩)
   case round =>
    clear H';(try clear p2);(try clear c5);(try clear c6);obtain⟨x8_1,x9_1,rfl,rfl,HA,HK1,BK168,HB⟩:=hrel
    cases gk with
    | zero=>exact absurd HA.out (by simp [spec_SectorText.l0])
    | succ k1 =>
     have H:=HA.out;clear HA;simp only [spec_SectorText.l0] at H;by_cases c7:x9_1 < a2
     ·
      rw [if_pos c7] at H;have c7b0:decide (x9_1 < a2)=true:=decide_eq_true c7;clear c7;have HC8:=Aside0.mk H;clear H;go_upto_region 7 with (fail);(go_cut [28] (fun v28 wc => ∃ (kq:Nat) (x28_7:Bool),v28=.bool x28_7∧Aside0 (spec_SectorText.j1 kq a1 a2 x8_1 x9_1 x28_7 l0_0 l0_1=some (r1,r2))∧Aside0 (kq≤k1)∧Aside0 (wc.heap[gb168]?=some (.cells #[(.slice A0_0 l0_0.length c0_0),(.slice A0_1 l0_1.length c0_1)] 30 (0,0)))∧Aside0 (Below w.heap.size w wc)))
      case first =>
       have H:=HC8.out;clear HC8;by_cases c9:a1 < 0
       · rw [if_pos c9] at H;have c9b0:decide (a1 < 0)=true:=decide_eq_true c9;clear c9;(first|rw [c9b0]|(simp only [i64_w,i32_w];rw [c9b0])|skip);have H':=Aside0.mk H;clear H;go_wp2;go_meet;(case rel=>exact⟨_,(true),rS,H',⟨by have:=HK1.out;first|omega|exact Nat.le_refl _⟩,⟨bk BK168.out⟩,⟨bB⟩⟩)
       rw [if_neg c9] at H;have c9b0:decide (a1 < 0)=false:=decide_eq_false c9;clear c9;(first|rw [c9b0]|(simp only [i64_w,i32_w];rw [c9b0])|skip);have H':=Aside0.mk H;clear H;obtain⟨hcz10_0,hcz10_1,hfz10_0,hfz10_1⟩:=b2 BK168;go_wp2;go_meet;(case rel=>exact⟨_,(decide (a1 > (l0_0.length:Int))),rS,H',⟨by have:=HK1.out;first|omega|exact Nat.le_refl _⟩,⟨bk BK168.out⟩,⟨bB⟩⟩)
      case rest =>
       clear HC8;(try clear p2);(try clear c5);(try clear c6);(try clear c7);(try clear c7b0);(try clear c9);(try clear c9b0);(try clear hcz10_0);(try clear hcz10_1);(try clear hfz10_0);(try clear hfz10_1);(try clear p2);obtain⟨kq,x28_7,rfl,HA,HJ7,BK168,HB⟩:=hcut
       cases kq with
       | zero=>exact absurd HA.out (by simp [spec_SectorText.j1])
       | succ kj7 =>
        have H:=HA.out;clear HA;simp only [spec_SectorText.j1] at H;by_cases c11:x28_7=true
        · subst c11;rw [if_pos rfl] at H;(try dsimp only at H);simp only [oI,pI] at H;obtain⟨rfl,rfl⟩:=H;go_wp2;go_ret2;exact⟨eF,bB⟩
        replace c11:=Bool.eq_false_iff.mpr c11;subst c11;rw [if_neg (show ¬ (false=true) by decide)] at H;(try dsimp only at H);replace H:=oB H;obtain⟨⟨t170,t171⟩,A120,H⟩:=H;(try dsimp only at H);have A12:=Aside0.mk A120;clear A120;by_cases c13:t171=true
        ·
         subst c13;rw [if_pos rfl] at H;(try dsimp only at H);by_cases c14:x8_1.size+t170.size≤9223372036854775807
         · rw [if_pos c14] at H;have c14b0:=eq_true c14;have c14b1:decide (x8_1.size+t170.size≤9223372036854775807)=true:=decide_eq_true c14;(try have c14b2:(9223372036854775807 < x8_1.size+t170.size)=False:=eq_false (Nat.not_lt.2 c14));have H':=Aside0.mk H;clear H;obtain⟨hcz15_0,hcz15_1,hfz15_0,hfz15_1⟩:=b2 BK168;(go_wp2_with (first|((with_reducible refine gC 93 ?_);refine gL (some 34) Try.func93 #[.agg #[.slice A0_0 l0_0.length c0_0, .slice A0_1 l0_1.length c0_1], .int .i64 (wrap64 (a1+x9_1))] ?_;(with_reducible refine (spec_ReadSector.calls kj7 _ _ l0_0 _ _ l0_1 (wrap64 (a1+x9_1)) t170 true _ ?side1 HC0_0.out ?side3 HC0_1.out A12.out).mono ?_);(case side1=>exact cB HR0_0);(case side3=>exact cB HR0_1);rintro e w16 ⟨rfl,hb⟩;refine⟨_,rfl,?_⟩;replace BK168:=kB BK168 hb;replace HB:=bS hb;(try clear hb))));go_roundg kj7;(case measure=>have:=HK1.out;have:=HJ7.out;omega);(case rel=>exact⟨(x8_1++t170),(wrap64 (x9_1+1)),rS,rS,H',⟨by have:=HK1.out;have:=HJ7.out;omega⟩,⟨bk BK168.out⟩,⟨bB⟩⟩)
         rw [if_neg c14] at H;(exact absurd H (by simp))
        replace c13:=Bool.eq_false_iff.mpr c13;subst c13;rw [if_neg (show ¬ (false=true) by decide)] at H;(try dsimp only at H);simp only [oI,pI] at H;obtain⟨rfl,rfl⟩:=H;obtain⟨hcz17_0,hcz17_1,hfz17_0,hfz17_1⟩:=b2 BK168;(go_wp2_with (first|((with_reducible refine gC 93 ?_);refine gL (some 34) Try.func93 #[.agg #[.slice A0_0 l0_0.length c0_0, .slice A0_1 l0_1.length c0_1], .int .i64 (wrap64 (a1+x9_1))] ?_;(with_reducible refine (spec_ReadSector.calls kj7 _ _ l0_0 _ _ l0_1 (wrap64 (a1+x9_1)) t170 false _ ?side1 HC0_0.out ?side3 HC0_1.out A12.out).mono ?_);(case side1=>exact cB HR0_0);(case side3=>exact cB HR0_1);rintro e w18 ⟨rfl,hb⟩;refine⟨_,rfl,?_⟩;replace BK168:=kB BK168 hb;replace HB:=bS hb;(try clear hb))));go_ret2;exact⟨eF,bB⟩
     rw [if_neg c7] at H;have c7b0:decide (x9_1 < a2)=false:=decide_eq_false c7;clear c7;simp only [oI,pI] at H;obtain⟨rfl,rfl⟩:=H;go_wp2;go_ret2;exact⟨eF,bB⟩
  replace c5:=Bool.eq_false_iff.mpr c5;subst c5;rw [if_neg (show ¬ (false=true) by decide)] at H;(try dsimp only at H);simp only [oI,pI] at H;obtain⟨rfl,rfl⟩:=H;go_enter Try.func65,Try.ntmps65;(go_wp2_with (first|((with_reducible refine gD 3 ?_);(try (refine gate_guard (by rfl) ?_;dsimp only));refine bE (N:=3) (cs:=#[.slice A0_0 l0_0.length c0_0, .slice A0_1 l0_1.length c0_1]) (t:=30) ?_;intro gb168 hg w19 hbox hb;have BK168:=Aside0.mk (hbox);have GW168:=gW hg;have GE168:=GW168;replace HB:=bS hb;clear hb hbox hg)|((with_reducible refine gC 64 ?_);refine gL (some 13) Try.func64 #[.int .i64 a2, .int .i64 0, .int .i64 100] ?_;(with_reducible refine (spec_l01In.calls a2 0 100 false _ A4.out).mono ?_);rintro e w' ⟨rfl,⟨nd,rfl⟩⟩;refine⟨_,rfl,?_⟩)));go_ret2;exact⟨eF,bB⟩

def spec_l01Var.l0:Nat→Int→List Int→Option (ByteArray)
  | 0,_,_=>none
  | k+1,x0,x3=>if x0 > 127 then (if x3.length < 140737488355328 then (spec_l01Var.l0 k (wrap64 (Int.tdiv x0 128)) (x3 ++ [(wrap64 ((Int.tmod x0 128)+128)) % 256])) else (none)) else (if x3.length < 140737488355328 then (some (strOfNums (x3 ++ [(x0) % 256]))) else (none))
def spec_l01Var.f (k:Nat) (a0:Int):Option (ByteArray):=spec_l01Var.l0 k a0 (([]:List Int))
theorem spec_l01Var.mono_l:∀ k,(∀ y0 y1,LeO (spec_l01Var.l0 k y0 y1) (spec_l01Var.l0 (k+1) y0 y1))
  | 0=>fun _ _ r h=>by simp [spec_l01Var.l0] at h
  | k+1=>by
    have ih0:=spec_l01Var.mono_l k
    · intro y0 y1
      unfold spec_l01Var.l0
      repeat' (with_reducible first|apply ih0|exact LeO.refl _|exact LeO.none _|refine LeO.ite ?_ ?_|refine LeO.bind ?_ (fun _=>?_))
theorem spec_l01Var.mono:∀ a0 k,LeO (spec_l01Var.f k a0) (spec_l01Var.f (k+1) a0):=by
  intro a0 k;have ih0:=spec_l01Var.mono_l k;unfold spec_l01Var.f;(repeat' (with_reducible first|apply ih0|exact LeO.refl _|exact LeO.none _|refine LeO.ite ?_ ?_|refine LeO.bind ?_ (fun _=>?_)))
set_option maxHeartbeats 8000000 in
set_option maxRecDepth 100000 in
theorem spec_l01Var.calls (k:Nat) (a0:Int) (r:ByteArray) (w:World) (h:spec_l01Var.f k a0=some r) :
    Calls Try.prog 104 #[.int .i64 a0] w fun e w'=>e=.returned (.string r)∧Below w.heap.size w w':=by
  have HB:=Aside0.mk (Below.refl w.heap.size w);have H:(spec_l01Var.l0 k a0 (([]:List Int)))=some r:=h;clear h;obtain⟨y172,hy172⟩:∃ y_:List Int,y_=(([]:List Int)):=⟨_,rfl⟩;(replace H:(spec_l01Var.l0 k a0 y172)=some r:=by first|(rw [hy172];with_reducible exact H)|(have H2_:=(Option.bind_some _ _).symm.trans H;rw [hy172];with_reducible exact H2_)|(have H2_:=(Option.bind_some _ _).symm.trans H;with_reducible exact H2_)|with_reducible exact H|(rw [hy172];exact H)|exact H);have Ny172:=Aside0.mk hy172;clear hy172;have H':=Aside0.mk H;clear H;go_enter Try.func104,Try.ntmps104;(go_wp2_with (first|((with_reducible refine gD 4 ?_);refine Kd.R_lit (Kd.int .u8) _ 5 ?hg (N:=4) ?hd (xs:=([]:List Int)) (inner:=[]) (ok:=fun _=>True) (okp:=fun _=>True) ?hr ?hp (fun _ hk=>hk) trivial (Below.refl _ _) (Nat.le_refl _) (by simp) ?_;(case hd=>rfl);(case hg=>rfl);(case hr=>first|(go_simp;done)|(go_simp;rfl));(case hp=>exact (Reps.none _ _));intro v173 w2 ho3 hb hg_ hnew_;clear hg_ hnew_;(first|rw [← Ny172.out] at ho3|(simp only [Int.reduceToNat] at ho3;rw [← Ny172.out] at ho3));have HO174:=rL ho3;replace HB:=bS hb;clear hb ho3)));(go_loopg [0,3] k (fun kq v0 v3 w' => ∃ (x0_1:Int) (x3_1:List Int),v0=.int .i64 x0_1∧Aside0 (spec_l01Var.l0 kq x0_1 x3_1=some r)∧Aside0 (kq≤k)∧Aside0 (Kd.R (Kd.int .u8) 5 w' w.heap.size (fun _=>True) v3 x3_1)∧Aside0 (Below w.heap.size w w')));(case atStart=>exact⟨(a0),(y172),rS,H',⟨Nat.le_refl _⟩,⟨rk HO174.out⟩,⟨bB⟩⟩)
  case round =>
   clear H';(try clear c1);(try clear p2);obtain⟨x0_1,x3_1,rfl,HA,HK1,HO_3,HB⟩:=hrel
   cases gk with
   | zero=>exact absurd HA.out (by simp [spec_l01Var.l0])
   | succ k1 =>
    have H:=HA.out;clear HA;simp only [spec_l01Var.l0] at H;by_cases c4:x0_1 > 127
    ·
     rw [if_pos c4] at H;have c4b0:decide (127 < x0_1)=true:=decide_eq_true c4;clear c4;by_cases c5:x3_1.length < 140737488355328
     · rw [if_pos c5] at H;have LMc5:=Aside0.mk c5;clear c5;obtain⟨y175,hy175⟩:∃ y_:List Int,y_=(x3_1 ++ [(wrap64 ((Int.tmod x0_1 128)+128)) % 256]):=⟨_,rfl⟩;(replace H:(spec_l01Var.l0 k1 (wrap64 (Int.tdiv x0_1 128)) y175)=some r:=by first|(rw [hy175];with_reducible exact H)|(have H2_:=(Option.bind_some _ _).symm.trans H;rw [hy175];with_reducible exact H2_)|(have H2_:=(Option.bind_some _ _).symm.trans H;with_reducible exact H2_)|with_reducible exact H|(rw [hy175];exact H)|exact H);have Ny175:=Aside0.mk hy175;clear hy175;have H':=Aside0.mk H;clear H;(go_wp2_with (first|((with_reducible refine gate_builtin (b := .append) (xs:=#[.tmp 7, .tmp 12]) rfl ?_);at_builtin;refine Kd.R_append (Kd.int .u8) (w0:=w) w.heap.size rfl (.tmp 7) (.tmp 12) 39 5 (.int .u8 0) 1 rfl Try.underlying39 info5 rfl (by decide) (by omega) u3 x3_1 ((wrap64 ((Int.tmod x0_1 128)+128)) % 256) [.int .u8 ((wrap64 ((Int.tmod x0_1 128)+128)) % 256)] (fun _=>True) (fun _=>False) rfl rfl ?aP (fun _ hk=>hk.elim) ?aF ?aO ?aB ?aS ?aL ?_;(case aP=>exact rfl);(case aB=>exact bB);(case aF=>exact (fun _ _=>trivial));(case aO=>exact (rk HO_3.out));(case aS=>exact (below_size bB));(case aL=>have:=LMc5.out;omega);intro v176 w6 ho hb hg hat;rw [← Ny175.out] at ho;have HO177:=Aside0.mk (ho);replace HB:=Aside0.mk (hb);clear HO_3 ho hb hg hat)));go_roundg k1;(case measure=>have:=HK1.out;omega);(case rel=>exact⟨(wrap64 (Int.tdiv x0_1 128)),(y175),rS,H',⟨by have:=HK1.out;omega⟩,⟨rk HO177.out⟩,⟨bB⟩⟩)
     rw [if_neg c5] at H;(exact absurd H (by simp))
    rw [if_neg c4] at H;have c4b0:decide (127 < x0_1)=false:=decide_eq_false c4;clear c4;by_cases c7:x3_1.length < 140737488355328
    · rw [if_pos c7] at H;have LMc7:=Aside0.mk c7;clear c7;obtain⟨y178,hy178⟩:∃ y_:List Int,y_=(x3_1 ++ [(x0_1) % 256]):=⟨_,rfl⟩;(replace H:(some (strOfNums y178))=some r:=by first|(rw [hy178];with_reducible exact H)|(have H2_:=(Option.bind_some _ _).symm.trans H;rw [hy178];with_reducible exact H2_)|(have H2_:=(Option.bind_some _ _).symm.trans H;with_reducible exact H2_)|with_reducible exact H|(rw [hy178];exact H)|exact H);have Ny178:=Aside0.mk hy178;clear hy178;obtain rfl:=Option.some.inj H;(go_wp2_with (first|((with_reducible refine gate_builtin (b := .append) (xs:=#[.tmp 16, .tmp 19]) rfl ?_);at_builtin;refine Kd.R_append (Kd.int .u8) (w0:=w) w.heap.size rfl (.tmp 16) (.tmp 19) 39 5 (.int .u8 0) 1 rfl Try.underlying39 info5 rfl (by decide) (by omega) u3 x3_1 ((x0_1) % 256) [.int .u8 ((x0_1) % 256)] (fun _=>True) (fun _=>False) rfl rfl ?aP (fun _ hk=>hk.elim) ?aF ?aO ?aB ?aS ?aL ?_;(case aP=>exact rfl);(case aB=>exact bB);(case aF=>exact (fun _ _=>trivial));(case aO=>exact (rk HO_3.out));(case aS=>exact (below_size bB));(case aL=>have:=LMc7.out;omega);intro v179 w8 ho hb hg hat;rw [← Ny178.out] at ho;have HO180:=Aside0.mk (ho);replace HB:=Aside0.mk (hb);clear HO_3 ho hb hg hat;have hcv9:=own_string (P:=Try.prog) Try.underlying39 Try.underlying5 Try.underlying9 (Kd.own_of_R HO180.out))));go_ret;exact⟨eF,bB⟩
    rw [if_neg c7] at H;(exact absurd H (by simp))

end Go.Proofs.Ytjnghaajmdaggaa.QFnLogsTold
