/- Sq: Go functions as Lean functions, and that the code comes to what they say: written by this session's program. Conditions: as each theorem states. -/
import Derived.Test.YtjnghaajmdaggaaQFnExactSwitchLogx0
namespace Go.Proofs.Ytjnghaajmdaggaa.QFnExactSwitchLog
open Go.RowKit Go.Proofs.YtjnghaajmdaggaaW.PrintWords Go.Proofs.YtjnghaajmdaggaaW.PrintLast Go.Proofs.YtjnghaajmdaggaaW.PrintMore Go.Proofs.YtjnghaajmdaggaaW.Sh
attribute [local go_sem] max2_int min2_int max_two min_two max_three min_three max_four min_four
set_option linter.unusedVariables false
set_option linter.unusedSimpArgs false

def laws_szStringS.l0:Nat→List ByteArray→Int→Int→Option (Int)
  | 0,_,_,_=>none
  | k+1,x0,x1,x5=>if x5 < (x0.length:Int) then (if 0≤x5 then (if (wrap64 (x1 - ((rdOf ByteArray.empty x0 x5).size:Int))) < 0 then (some (-1)) else (laws_szStringS.l0 k x0 (wrap64 (x1 - ((rdOf ByteArray.empty x0 x5).size:Int))) (wrap64 (x5+1)))) else (none)) else (some x1)
def laws_szStringS.f (k:Nat) (l0:List ByteArray) (a1:Int):Option (Int):=if (wrap64 (a1 - (l0.length:Int))) < 0 then (some (-1)) else (laws_szStringS.l0 k l0 (wrap64 (a1 - (l0.length:Int))) 0)
theorem laws_szStringS.mono_l:∀ k,(∀ y0 y1 y2,LeO (laws_szStringS.l0 k y0 y1 y2) (laws_szStringS.l0 (k+1) y0 y1 y2))
  | 0=>fun _ _ _ r h=>by simp [laws_szStringS.l0] at h
  | k+1=>by
    have ih0:=laws_szStringS.mono_l k
    · intro y0 y1 y2
      unfold laws_szStringS.l0
      repeat' (with_reducible first|apply ih0|exact LeO.refl _|exact LeO.none _|refine LeO.ite ?_ ?_|refine LeO.bind ?_ (fun _=>?_))
theorem laws_szStringS.mono:∀ a0 a1 k,LeO (laws_szStringS.f k a0 a1) (laws_szStringS.f (k+1) a0 a1):=by
  intro a0 a1 k;have ih0:=laws_szStringS.mono_l k;unfold laws_szStringS.f;(repeat' (with_reducible first|apply ih0|exact LeO.refl _|exact LeO.none _|refine LeO.ite ?_ ?_|refine LeO.bind ?_ (fun _=>?_)))
set_option maxHeartbeats 8000000 in
set_option maxRecDepth 100000 in
theorem laws_szStringS.calls (k:Nat) (A0:Option Addr) (c0:Nat) (l0:List ByteArray) (a1:Int) (r:Int) (w:World) (hr0:Kd.C Kd.string w A0 l0.length l0) (hc0:l0.length≤c0) (h:laws_szStringS.f k l0 a1=some r) :
    Calls Try.prog 8 #[.slice A0 l0.length c0, .int .i64 a1] w fun e w'=>e=.returned (.int .i64 r)∧Drawn0 w w':=by
  have HR0:=Aside0.mk hr0;have HC0:=Aside0.mk hc0;clear hr0 hc0;have H:(if (wrap64 (a1 - (l0.length:Int))) < 0 then (some (-1)) else (laws_szStringS.l0 k l0 (wrap64 (a1 - (l0.length:Int))) 0))=some r:=h;clear h;by_cases c3:(wrap64 (a1 - (l0.length:Int))) < 0
  · rw [if_pos c3] at H;have c3b0:decide ((wrap64 (a1 - (l0.length:Int))) < 0)=true:=decide_eq_true c3;clear c3;obtain rfl:=Option.some.inj H;go_enter Try.func8,Try.ntmps8;go_wp2;go_ret;(exact⟨by first|rfl|(simp;done)|(simp [*];done),by repeat (first|exact Drawn0.refl _|apply Drawn0.step)⟩)
  rw [if_neg c3] at H;have c3b0:decide ((wrap64 (a1 - (l0.length:Int))) < 0)=false:=decide_eq_false c3;clear c3;have H':=Aside0.mk H;clear H;go_enter Try.func8,Try.ntmps8;go_wp2;(go_loopg [1,5] k (fun kq v1 v5 w' => ∃ (x1_1:Int) (x5_1:Int),v1=.int .i64 x1_1∧v5=.int .i64 x5_1∧Aside0 (laws_szStringS.l0 kq l0 x1_1 x5_1=some r)∧Aside0 (kq≤k)∧Drawn0 w w'));(case atStart=>exact⟨(wrap64 (a1 - (l0.length:Int))),(0),rS,rS,H',⟨Nat.le_refl _⟩,by repeat (first|exact Drawn0.refl _|apply Drawn0.step)⟩)
  case round =>
   clear H';(try clear p2);(try clear c3);(try clear c3b0);obtain⟨x1_1,x5_1,rfl,rfl,HA,HK1,⟨m1,rfl⟩⟩:=hrel
   cases gk with
   | zero=>exact absurd HA.out (by simp [laws_szStringS.l0])
   | succ k1 =>
    have H:=HA.out;clear HA;simp only [laws_szStringS.l0] at H;by_cases c4:x5_1 < (l0.length:Int)
    ·
     rw [if_pos c4] at H;have c4b0:decide (x5_1 < (l0.length:Int))=true:=decide_eq_true c4;clear c4;by_cases c5:0≤x5_1
     ·
      rw [if_pos c5] at H;have c5b0:decide (0≤x5_1)=true:=decide_eq_true c5;clear c5;by_cases c6:(wrap64 (x1_1 - ((rdOf ByteArray.empty l0 x5_1).size:Int))) < 0
      · rw [if_pos c6] at H;have c6b0:decide ((wrap64 (x1_1 - ((rdOf ByteArray.empty l0 x5_1).size:Int))) < 0)=true:=decide_eq_true c6;clear c6;obtain rfl:=Option.some.inj H;(have p101:0≤(x5_1:Int):=of_decide_eq_true (by first|(with_reducible assumption)|assumption));(have q101:x5_1 < (l0.length:Int):=of_decide_eq_true (by first|(with_reducible assumption)|assumption));obtain⟨ad101,e101,hx101_0⟩:=Kd.at_string HR0.out x5_1 p101 q101;cases e101;replace p101:=eq_true p101;replace q101:=eq_true q101;go_wp2;go_ret;(exact⟨by first|rfl|(simp;done)|(simp [*];done),by repeat (first|exact Drawn0.refl _|apply Drawn0.step)⟩)
      rw [if_neg c6] at H;have c6b0:decide ((wrap64 (x1_1 - ((rdOf ByteArray.empty l0 x5_1).size:Int))) < 0)=false:=decide_eq_false c6;clear c6;have H':=Aside0.mk H;clear H;(have p101:0≤(x5_1:Int):=of_decide_eq_true (by first|(with_reducible assumption)|assumption));(have q101:x5_1 < (l0.length:Int):=of_decide_eq_true (by first|(with_reducible assumption)|assumption));obtain⟨ad101,e101,hx101_0⟩:=Kd.at_string HR0.out x5_1 p101 q101;cases e101;replace p101:=eq_true p101;replace q101:=eq_true q101;go_wp2;go_roundg k1;(case measure=>have:=HK1.out;omega);(case rel=>exact⟨(wrap64 (x1_1 - ((rdOf ByteArray.empty l0 x5_1).size:Int))),(wrap64 (x5_1+1)),rS,rS,H',⟨by have:=HK1.out;omega⟩,by repeat (first|exact Drawn0.refl _|apply Drawn0.step)⟩)
     rw [if_neg c5] at H;(exact absurd H (by simp))
    rw [if_neg c4] at H;have c4b0:decide (x5_1 < (l0.length:Int))=false:=decide_eq_false c4;clear c4;obtain rfl:=Option.some.inj H;go_wp2;go_ret;(exact⟨by first|rfl|(simp;done)|(simp [*];done),by repeat (first|exact Drawn0.refl _|apply Drawn0.step)⟩)

def laws_szPut.f (a0_0:Int) (a0_1:ByteArray) (a1:Int):Option (Int):=if (wrap64 (a1 - (a0_1.size:Int))) < 0 then (some (-1)) else (some (wrap64 (a1 - (a0_1.size:Int))))
set_option maxHeartbeats 8000000 in
set_option maxRecDepth 100000 in
theorem laws_szPut.calls (a0_0:Int) (a0_1:ByteArray) (a1:Int) (r:Int) (w:World) (h:laws_szPut.f a0_0 a0_1 a1=some r) :
    Calls Try.prog 79 #[.agg #[.int .i64 a0_0, .string a0_1], .int .i64 a1] w fun e w'=>e=.returned (.int .i64 r)∧Below w.heap.size w w':=by
  have hu84:=Try.underlying84;have HB:=Aside0.mk (Below.refl w.heap.size w);have H:(if (wrap64 (a1 - (a0_1.size:Int))) < 0 then (some (-1)) else (some (wrap64 (a1 - (a0_1.size:Int)))))=some r:=h;clear h;by_cases c3:(wrap64 (a1 - (a0_1.size:Int))) < 0
  · rw [if_pos c3] at H;have c3b0:decide ((wrap64 (a1 - (a0_1.size:Int))) < 0)=true:=decide_eq_true c3;clear c3;obtain rfl:=Option.some.inj H;go_enter Try.func79,Try.ntmps79;(go_wp2_with (first|((with_reducible refine gD 2 ?_);refine bE (N:=2) (cs:=#[.int .i64 a0_0, .string a0_1]) (t:=84) ?_;intro gb102 hg w4 hbox hb;have BK102:=Aside0.mk (hbox);have GW102:=gW hg;have GE102:=GW102;replace HB:=bS hb;clear hb hbox hg;obtain⟨hcz5_0,hcz5_1,hfz5_0,hfz5_1⟩:=b2 BK102)));go_ret;exact⟨eF,bB⟩
  rw [if_neg c3] at H;have c3b0:decide ((wrap64 (a1 - (a0_1.size:Int))) < 0)=false:=decide_eq_false c3;clear c3;obtain rfl:=Option.some.inj H;go_enter Try.func79,Try.ntmps79;(go_wp2_with (first|((with_reducible refine gD 2 ?_);refine bE (N:=2) (cs:=#[.int .i64 a0_0, .string a0_1]) (t:=84) ?_;intro gb102 hg w6 hbox hb;have BK102:=Aside0.mk (hbox);have GW102:=gW hg;have GE102:=GW102;replace HB:=bS hb;clear hb hbox hg;obtain⟨hcz7_0,hcz7_1,hfz7_0,hfz7_1⟩:=b2 BK102)));go_ret;exact⟨eF,bB⟩

def laws_szPutS.l0:Nat→List (S84)→Int→Int→Option (Int)
  | 0,_,_,_=>none
  | k+1,x0,x1,x5=>if x5 < (x0.length:Int) then (if 0≤x5 then ((laws_szPut.f ((rd_T84 x0 x5).f0) ((rd_T84 x0 x5).f1) x1).bind fun t104=>(if t104 < 0 then (some (-1)) else (laws_szPutS.l0 k x0 t104 (wrap64 (x5+1))))) else (none)) else (some x1)
def laws_szPutS.f (k:Nat) (l0:List (S84)) (a1:Int):Option (Int):=if (wrap64 (a1 - (l0.length:Int))) < 0 then (some (-1)) else (laws_szPutS.l0 k l0 (wrap64 (a1 - (l0.length:Int))) 0)
theorem laws_szPutS.mono_l:∀ k,(∀ y0 y1 y2,LeO (laws_szPutS.l0 k y0 y1 y2) (laws_szPutS.l0 (k+1) y0 y1 y2))
  | 0=>fun _ _ _ r h=>by simp [laws_szPutS.l0] at h
  | k+1=>by
    have ih0:=laws_szPutS.mono_l k
    · intro y0 y1 y2
      unfold laws_szPutS.l0
      repeat' (with_reducible first|apply ih0|exact LeO.refl _|exact LeO.none _|refine LeO.ite ?_ ?_|refine LeO.bind ?_ (fun _=>?_))
theorem laws_szPutS.mono:∀ a0 a1 k,LeO (laws_szPutS.f k a0 a1) (laws_szPutS.f (k+1) a0 a1):=by
  intro a0 a1 k;have ih0:=laws_szPutS.mono_l k;unfold laws_szPutS.f;(repeat' (with_reducible first|apply ih0|exact LeO.refl _|exact LeO.none _|refine LeO.ite ?_ ?_|refine LeO.bind ?_ (fun _=>?_)))
set_option maxHeartbeats 8000000 in
set_option maxRecDepth 100000 in
theorem laws_szPutS.calls (k:Nat) (A0:Option Addr) (c0:Nat) (l0:List (S84)) (a1:Int) (r:Int) (w:World) (hr0:Kd.C k84 w A0 l0.length l0) (hc0:l0.length≤c0) (h:laws_szPutS.f k l0 a1=some r) :
    Calls Try.prog 42 #[.slice A0 l0.length c0, .int .i64 a1] w fun e w'=>e=.returned (.int .i64 r)∧Below w.heap.size w w':=by
  have hu84:=Try.underlying84;have HR0:=Aside0.mk hr0;have HC0:=Aside0.mk hc0;clear hr0 hc0;have HB:=Aside0.mk (Below.refl w.heap.size w);have H:(if (wrap64 (a1 - (l0.length:Int))) < 0 then (some (-1)) else (laws_szPutS.l0 k l0 (wrap64 (a1 - (l0.length:Int))) 0))=some r:=h;clear h;by_cases c3:(wrap64 (a1 - (l0.length:Int))) < 0
  · rw [if_pos c3] at H;have c3b0:decide ((wrap64 (a1 - (l0.length:Int))) < 0)=true:=decide_eq_true c3;clear c3;obtain rfl:=Option.some.inj H;go_enter Try.func42,Try.ntmps42;go_wp2;go_ret;exact⟨eF,bB⟩
  rw [if_neg c3] at H;have c3b0:decide ((wrap64 (a1 - (l0.length:Int))) < 0)=false:=decide_eq_false c3;clear c3;have H':=Aside0.mk H;clear H;go_enter Try.func42,Try.ntmps42;go_wp2;(go_loopg [1,5] k (fun kq v1 v5 w' => ∃ (x1_1:Int) (x5_1:Int),v1=.int .i64 x1_1∧v5=.int .i64 x5_1∧Aside0 (laws_szPutS.l0 kq l0 x1_1 x5_1=some r)∧Aside0 (kq≤k)∧Aside0 (Below w.heap.size w w')));(case atStart=>exact⟨(wrap64 (a1 - (l0.length:Int))),(0),rS,rS,H',⟨Nat.le_refl _⟩,⟨bB⟩⟩)
  case round =>
   clear H';(try clear p2);(try clear c3);(try clear c3b0);obtain⟨x1_1,x5_1,rfl,rfl,HA,HK1,HB⟩:=hrel
   cases gk with
   | zero=>exact absurd HA.out (by simp [laws_szPutS.l0])
   | succ k1 =>
    have H:=HA.out;clear HA;simp only [laws_szPutS.l0] at H;by_cases c4:x5_1 < (l0.length:Int)
    ·
     rw [if_pos c4] at H;have c4b0:decide (x5_1 < (l0.length:Int))=true:=decide_eq_true c4;clear c4;by_cases c5:0≤x5_1
     ·
      rw [if_pos c5] at H;have c5b0:decide (0≤x5_1)=true:=decide_eq_true c5;clear c5;replace H:=oB H;obtain⟨t104,A60,H⟩:=H;(try dsimp only at H);have A6:=Aside0.mk A60;clear A60;by_cases c7:t104 < 0
      · rw [if_pos c7] at H;have c7b0:decide (t104 < 0)=true:=decide_eq_true c7;clear c7;obtain rfl:=Option.some.inj H;(have p103:0≤(x5_1:Int):=of_decide_eq_true (by first|(with_reducible assumption)|assumption));(have q103:x5_1 < (l0.length:Int):=of_decide_eq_true (by first|(with_reducible assumption)|assumption));obtain⟨ad103,e103,hx103_0,hx103_1⟩:=at_T84 HR0.out x5_1 p103 q103;cases e103;replace hx103_0:=(HB.out.cell (World.block_lt_of_cell? w _ hx103_0)).trans hx103_0;replace hx103_1:=(HB.out.cell (World.block_lt_of_cell? w _ hx103_1)).trans hx103_1;replace p103:=eq_true p103;replace q103:=eq_true q103;(go_wp2_with (first|((with_reducible refine gC 79 ?_);refine gL (some 23) Try.func79 #[.agg #[.int .i64 ((rd_T84 l0 x5_1).f0), .string ((rd_T84 l0 x5_1).f1)], .int .i64 x1_1] ?_;(with_reducible refine (laws_szPut.calls ((rd_T84 l0 x5_1).f0) ((rd_T84 l0 x5_1).f1) x1_1 t104 _ A6.out).mono ?_);rintro e w8 ⟨rfl,hb⟩;refine⟨_,rfl,?_⟩;replace HB:=bS hb;(try clear hb))));go_ret;exact⟨eF,bB⟩
      rw [if_neg c7] at H;have c7b0:decide (t104 < 0)=false:=decide_eq_false c7;clear c7;have H':=Aside0.mk H;clear H;(have p103:0≤(x5_1:Int):=of_decide_eq_true (by first|(with_reducible assumption)|assumption));(have q103:x5_1 < (l0.length:Int):=of_decide_eq_true (by first|(with_reducible assumption)|assumption));obtain⟨ad103,e103,hx103_0,hx103_1⟩:=at_T84 HR0.out x5_1 p103 q103;cases e103;replace hx103_0:=(HB.out.cell (World.block_lt_of_cell? w _ hx103_0)).trans hx103_0;replace hx103_1:=(HB.out.cell (World.block_lt_of_cell? w _ hx103_1)).trans hx103_1;replace p103:=eq_true p103;replace q103:=eq_true q103;(go_wp2_with (first|((with_reducible refine gC 79 ?_);refine gL (some 23) Try.func79 #[.agg #[.int .i64 ((rd_T84 l0 x5_1).f0), .string ((rd_T84 l0 x5_1).f1)], .int .i64 x1_1] ?_;(with_reducible refine (laws_szPut.calls ((rd_T84 l0 x5_1).f0) ((rd_T84 l0 x5_1).f1) x1_1 t104 _ A6.out).mono ?_);rintro e w9 ⟨rfl,hb⟩;refine⟨_,rfl,?_⟩;replace HB:=bS hb;(try clear hb))));go_roundg k1;(case measure=>have:=HK1.out;omega);(case rel=>exact⟨(t104),(wrap64 (x5_1+1)),rS,rS,H',⟨by have:=HK1.out;omega⟩,⟨bB⟩⟩)
     rw [if_neg c5] at H;(exact absurd H (by simp))
    rw [if_neg c4] at H;have c4b0:decide (x5_1 < (l0.length:Int))=false:=decide_eq_false c4;clear c4;obtain rfl:=Option.some.inj H;go_wp2;go_ret;exact⟨eF,bB⟩

def laws_szDisk.f (k:Nat) (l0_0:List ByteArray) (l0_1:List (S84)) (a1:Int):Option (Int):=(laws_szStringS.f k l0_0 a1).bind fun t106=>(if t106 < 0 then (some (-1)) else ((laws_szPutS.f k l0_1 t106).bind fun t107=>(if t107 < 0 then (some (-1)) else (some t107))))
theorem laws_szDisk.mono:∀ a0 a1 a2 k,LeO (laws_szDisk.f k a0 a1 a2) (laws_szDisk.f (k+1) a0 a1 a2):=by
  intro a0 a1 a2 k;unfold laws_szDisk.f;(repeat' (with_reducible first|apply laws_szPutS.mono|apply laws_szStringS.mono|exact LeO.refl _|exact LeO.none _|refine LeO.ite ?_ ?_|refine LeO.bind ?_ (fun _=>?_)))
set_option maxHeartbeats 8000000 in
set_option maxRecDepth 100000 in
theorem laws_szDisk.calls (k:Nat) (A0_0:Option Addr) (c0_0:Nat) (l0_0:List ByteArray) (A0_1:Option Addr) (c0_1:Nat) (l0_1:List (S84)) (a1:Int) (r:Int) (w:World) (hr0_0:Kd.C Kd.string w A0_0 l0_0.length l0_0) (hc0_0:l0_0.length≤c0_0) (hr0_1:Kd.C k84 w A0_1 l0_1.length l0_1) (hc0_1:l0_1.length≤c0_1) (h:laws_szDisk.f k l0_0 l0_1 a1=some r) :
    Calls Try.prog 7 #[.agg #[.slice A0_0 l0_0.length c0_0, .slice A0_1 l0_1.length c0_1], .int .i64 a1] w fun e w'=>e=.returned (.int .i64 r)∧Below w.heap.size w w':=by
  have hu25:=Try.underlying25;have HR0_0:=Aside0.mk hr0_0;have HC0_0:=Aside0.mk hc0_0;clear hr0_0 hc0_0;have HR0_1:=Aside0.mk hr0_1;have HC0_1:=Aside0.mk hc0_1;clear hr0_1 hc0_1;have HB:=Aside0.mk (Below.refl w.heap.size w);have H:=h;clear h;unfold laws_szDisk.f at H;replace H:=oB H;obtain⟨t106,A30,H⟩:=H;(try dsimp only at H);have A3:=Aside0.mk A30;clear A30;by_cases c4:t106 < 0
  · rw [if_pos c4] at H;have c4b0:decide (t106 < 0)=true:=decide_eq_true c4;clear c4;obtain rfl:=Option.some.inj H;go_enter Try.func7,Try.ntmps7;(go_wp2_with (first|((with_reducible refine gD 2 ?_);refine bE (N:=2) (cs:=#[.slice A0_0 l0_0.length c0_0, .slice A0_1 l0_1.length c0_1]) (t:=25) ?_;intro gb105 hg w5 hbox hb;have BK105:=Aside0.mk (hbox);have GW105:=gW hg;have GE105:=GW105;replace HB:=bS hb;clear hb hbox hg;obtain⟨hcz6_0,hcz6_1,hfz6_0,hfz6_1⟩:=b2 BK105)|((with_reducible refine gC 8 ?_);refine gL (some 8) Try.func8 #[.slice A0_0 l0_0.length c0_0, .int .i64 a1] ?_;(with_reducible refine (laws_szStringS.calls k _ _ l0_0 a1 t106 _ ?side1 HC0_0.out A3.out).mono ?_);(case side1=>exact cB HR0_0);rintro e w' ⟨rfl,⟨nd,rfl⟩⟩;refine⟨_,rfl,?_⟩)));go_ret;exact⟨eF,bB⟩
  rw [if_neg c4] at H;have c4b0:decide (t106 < 0)=false:=decide_eq_false c4;clear c4;replace H:=oB H;obtain⟨t107,A70,H⟩:=H;(try dsimp only at H);have A7:=Aside0.mk A70;clear A70;by_cases c8:t107 < 0
  · rw [if_pos c8] at H;have c8b0:decide (t107 < 0)=true:=decide_eq_true c8;clear c8;obtain rfl:=Option.some.inj H;go_enter Try.func7,Try.ntmps7;(go_wp2_with (first|((with_reducible refine gD 2 ?_);refine bE (N:=2) (cs:=#[.slice A0_0 l0_0.length c0_0, .slice A0_1 l0_1.length c0_1]) (t:=25) ?_;intro gb105 hg w9 hbox hb;have BK105:=Aside0.mk (hbox);have GW105:=gW hg;have GE105:=GW105;replace HB:=bS hb;clear hb hbox hg;obtain⟨hcz10_0,hcz10_1,hfz10_0,hfz10_1⟩:=b2 BK105)|((with_reducible refine gC 8 ?_);refine gL (some 8) Try.func8 #[.slice A0_0 l0_0.length c0_0, .int .i64 a1] ?_;(with_reducible refine (laws_szStringS.calls k _ _ l0_0 a1 t106 _ ?side1 HC0_0.out A3.out).mono ?_);(case side1=>exact cB HR0_0);rintro e w' ⟨rfl,⟨nd,rfl⟩⟩;refine⟨_,rfl,?_⟩)|((with_reducible refine gC 42 ?_);refine gL (some 14) Try.func42 #[.slice A0_1 l0_1.length c0_1, .int .i64 t106] ?_;(with_reducible refine (laws_szPutS.calls k _ _ l0_1 t106 t107 _ ?side1 HC0_1.out A7.out).mono ?_);(case side1=>repeat (first|exact (Kd.C_below HR0_1.out bB)|(with_reducible refine Kd.C_alloc ?_ _)|(with_reducible refine Kd.C_drewN ?_ _)|(with_reducible refine Kd.C_drew ?_)));rintro e w11 ⟨rfl,hb⟩;refine⟨_,rfl,?_⟩;replace BK105:=kB BK105 hb;replace HB:=bS hb;(try clear hb))));go_ret;exact⟨eF,bB⟩
  rw [if_neg c8] at H;have c8b0:decide (t107 < 0)=false:=decide_eq_false c8;clear c8;obtain rfl:=Option.some.inj H;go_enter Try.func7,Try.ntmps7;(go_wp2_with (first|((with_reducible refine gD 2 ?_);refine bE (N:=2) (cs:=#[.slice A0_0 l0_0.length c0_0, .slice A0_1 l0_1.length c0_1]) (t:=25) ?_;intro gb105 hg w12 hbox hb;have BK105:=Aside0.mk (hbox);have GW105:=gW hg;have GE105:=GW105;replace HB:=bS hb;clear hb hbox hg;obtain⟨hcz13_0,hcz13_1,hfz13_0,hfz13_1⟩:=b2 BK105)|((with_reducible refine gC 8 ?_);refine gL (some 8) Try.func8 #[.slice A0_0 l0_0.length c0_0, .int .i64 a1] ?_;(with_reducible refine (laws_szStringS.calls k _ _ l0_0 a1 t106 _ ?side1 HC0_0.out A3.out).mono ?_);(case side1=>exact cB HR0_0);rintro e w' ⟨rfl,⟨nd,rfl⟩⟩;refine⟨_,rfl,?_⟩)|((with_reducible refine gC 42 ?_);refine gL (some 14) Try.func42 #[.slice A0_1 l0_1.length c0_1, .int .i64 t106] ?_;(with_reducible refine (laws_szPutS.calls k _ _ l0_1 t106 t107 _ ?side1 HC0_1.out A7.out).mono ?_);(case side1=>repeat (first|exact (Kd.C_below HR0_1.out bB)|(with_reducible refine Kd.C_alloc ?_ _)|(with_reducible refine Kd.C_drewN ?_ _)|(with_reducible refine Kd.C_drew ?_)));rintro e w14 ⟨rfl,hb⟩;refine⟨_,rfl,?_⟩;replace BK105:=kB BK105 hb;replace HB:=bS hb;(try clear hb))));go_ret;exact⟨eF,bB⟩

def spec_l01In.f (a0:Int) (a1:Int) (a2:Int):Option (Bool):=if a0≥a1 then (some (decide (a0≤a2))) else (some false)
set_option maxHeartbeats 8000000 in
set_option maxRecDepth 100000 in
theorem spec_l01In.calls (a0:Int) (a1:Int) (a2:Int) (r:Bool) (w:World) (h:spec_l01In.f a0 a1 a2=some r) :
    Calls Try.prog 64 #[.int .i64 a0, .int .i64 a1, .int .i64 a2] w fun e w'=>e=.returned (.bool r)∧Drawn0 w w':=by
  have H:(if a0≥a1 then (some (decide (a0≤a2))) else (some false))=some r:=h;clear h;by_cases c4:a0≥a1
  · rw [if_pos c4] at H;have c4b0:decide (a1≤a0)=true:=decide_eq_true c4;clear c4;obtain rfl:=Option.some.inj H;go_enter Try.func64,Try.ntmps64;go_wp2;go_ret;(exact⟨by first|rfl|(simp;done)|(simp [*];done),by repeat (first|exact Drawn0.refl _|apply Drawn0.step)⟩)
  rw [if_neg c4] at H;have c4b0:decide (a1≤a0)=false:=decide_eq_false c4;clear c4;obtain rfl:=Option.some.inj H;go_enter Try.func64,Try.ntmps64;go_wp2;go_ret;(exact⟨by first|rfl|(simp;done)|(simp [*];done),by repeat (first|exact Drawn0.refl _|apply Drawn0.step)⟩)

def spec_AreaFirst.f (a0:Int):Option (Int):=(spec_l01In.f a0 0 1).bind fun t108=>(if t108=true then (some (wrap64 (1+(wrap64 (a0 * 48))))) else (some 0))
set_option maxHeartbeats 8000000 in
set_option maxRecDepth 100000 in
theorem spec_AreaFirst.calls (a0:Int) (r:Int) (w:World) (h:spec_AreaFirst.f a0=some r) :
    Calls Try.prog 38 #[.int .i64 a0] w fun e w'=>e=.returned (.int .i64 r)∧Drawn0 w w':=by
  have H:=h;clear h;unfold spec_AreaFirst.f at H;replace H:=oB H;obtain⟨t108,A20,H⟩:=H;(try dsimp only at H);have A2:=Aside0.mk A20;clear A20;by_cases c3:t108=true
  · subst c3;rw [if_pos rfl] at H;(try dsimp only at H);obtain rfl:=Option.some.inj H;go_enter Try.func38,Try.ntmps38;(go_wp2_with (first|((with_reducible refine gC 64 ?_);refine gL (some 4) Try.func64 #[.int .i64 a0, .int .i64 0, .int .i64 1] ?_;(with_reducible refine (spec_l01In.calls a0 0 1 true _ A2.out).mono ?_);rintro e w' ⟨rfl,⟨nd,rfl⟩⟩;refine⟨_,rfl,?_⟩)));go_ret;(exact⟨by first|rfl|(simp;done)|(simp [*];done),by repeat (first|exact Drawn0.refl _|apply Drawn0.step)⟩)
  replace c3:=Bool.eq_false_iff.mpr c3;subst c3;rw [if_neg (show ¬ (false=true) by decide)] at H;(try dsimp only at H);obtain rfl:=Option.some.inj H;go_enter Try.func38,Try.ntmps38;(go_wp2_with (first|((with_reducible refine gC 64 ?_);refine gL (some 4) Try.func64 #[.int .i64 a0, .int .i64 0, .int .i64 1] ?_;(with_reducible refine (spec_l01In.calls a0 0 1 false _ A2.out).mono ?_);rintro e w' ⟨rfl,⟨nd,rfl⟩⟩;refine⟨_,rfl,?_⟩)));go_ret;(exact⟨by first|rfl|(simp;done)|(simp [*];done),by repeat (first|exact Drawn0.refl _|apply Drawn0.step)⟩)

def spec_ReadSector.l0:Nat→Int→Int→List ByteArray→List (S78)→Option (ByteArray×Bool)
  | 0,_,_,_,_=>none
  | k+1,x1,x6,x110000,x110001=>if x6≥0 then (if 0≤x6 then (if x6 < (x110001.length:Int) then (if ((rd_T78 x110001 x6).f0)=x1 then (some ((rd_T78 x110001 x6).f1,true)) else (spec_ReadSector.l0 k x1 (wrap64 (x6 - 1)) x110000 x110001)) else (none)) else (none)) else (if 0≤x1 then (if x1 < (x110000.length:Int) then (some (rdOf ByteArray.empty x110000 x1,true)) else (none)) else (none))
def spec_ReadSector.f (k:Nat) (l0_0:List ByteArray) (l0_1:List (S78)) (a1:Int):Option (ByteArray×Bool):=(spec_l01In.f a1 0 (wrap64 ((l0_0.length:Int) - 1))).bind fun t110=>(if t110=true then (spec_ReadSector.l0 k a1 (wrap64 ((l0_1.length:Int) - 1)) l0_0 l0_1) else (some ((⟨#[]⟩:ByteArray),false)))
theorem spec_ReadSector.mono_l:∀ k,(∀ y0 y1 y2 y3,LeO (spec_ReadSector.l0 k y0 y1 y2 y3) (spec_ReadSector.l0 (k+1) y0 y1 y2 y3))
  | 0=>fun _ _ _ _ r h=>by simp [spec_ReadSector.l0] at h
  | k+1=>by
    have ih0:=spec_ReadSector.mono_l k
    · intro y0 y1 y2 y3
      unfold spec_ReadSector.l0
      repeat' (with_reducible first|apply ih0|exact LeO.refl _|exact LeO.none _|refine LeO.ite ?_ ?_|refine LeO.bind ?_ (fun _=>?_))
theorem spec_ReadSector.mono:∀ a0 a1 a2 k,LeO (spec_ReadSector.f k a0 a1 a2) (spec_ReadSector.f (k+1) a0 a1 a2):=by
  intro a0 a1 a2 k;have ih0:=spec_ReadSector.mono_l k;unfold spec_ReadSector.f;(repeat' (with_reducible first|apply ih0|exact LeO.refl _|exact LeO.none _|refine LeO.ite ?_ ?_|refine LeO.bind ?_ (fun _=>?_)))
set_option maxHeartbeats 8000000 in
set_option maxRecDepth 100000 in
theorem spec_ReadSector.calls (k:Nat) (A0_0:Option Addr) (c0_0:Nat) (l0_0:List ByteArray) (A0_1:Option Addr) (c0_1:Nat) (l0_1:List (S78)) (a1:Int) (r1:ByteArray) (r2:Bool) (w:World) (hr0_0:Kd.C Kd.string w A0_0 l0_0.length l0_0) (hc0_0:l0_0.length≤c0_0) (hr0_1:Kd.C k78 w A0_1 l0_1.length l0_1) (hc0_1:l0_1.length≤c0_1) (h:spec_ReadSector.f k l0_0 l0_1 a1=some (r1,r2)) :
    Calls Try.prog 93 #[.agg #[.slice A0_0 l0_0.length c0_0, .slice A0_1 l0_1.length c0_1], .int .i64 a1] w fun e w'=>e=.returned (.tuple #[.string r1, .bool r2])∧Below w.heap.size w w':=by
  have hu30:=Try.underlying30;have HR0_0:=Aside0.mk hr0_0;have HC0_0:=Aside0.mk hc0_0;clear hr0_0 hc0_0;have HR0_1:=Aside0.mk hr0_1;have HC0_1:=Aside0.mk hc0_1;clear hr0_1 hc0_1;have HB:=Aside0.mk (Below.refl w.heap.size w);have H:=h;clear h;unfold spec_ReadSector.f at H;replace H:=oB H;obtain⟨t110,A30,H⟩:=H;(try dsimp only at H);have A3:=Aside0.mk A30;clear A30;by_cases c4:t110=true
  ·
   subst c4;rw [if_pos rfl] at H;(try dsimp only at H);have H':=Aside0.mk H;clear H;go_enter Try.func93,Try.ntmps93;(go_wp2_with (first|((with_reducible refine gD 2 ?_);refine bE (N:=2) (cs:=#[.slice A0_0 l0_0.length c0_0, .slice A0_1 l0_1.length c0_1]) (t:=30) ?_;intro gb109 hg w5 hbox hb;have BK109:=Aside0.mk (hbox);have GW109:=gW hg;have GE109:=GW109;replace HB:=bS hb;clear hb hbox hg;obtain⟨hcz6_0,hcz6_1,hfz6_0,hfz6_1⟩:=b2 BK109)|((with_reducible refine gC 64 ?_);refine gL (some 12) Try.func64 #[.int .i64 a1, .int .i64 0, .int .i64 (wrap64 ((l0_0.length:Int) - 1))] ?_;(with_reducible refine (spec_l01In.calls a1 0 (wrap64 ((l0_0.length:Int) - 1)) true _ A3.out).mono ?_);rintro e w' ⟨rfl,⟨nd,rfl⟩⟩;refine⟨_,rfl,?_⟩)));(go_loopg [6] k (fun kq v6 w' => ∃ (x6_1:Int),v6=.int .i64 x6_1∧Aside0 (spec_ReadSector.l0 kq a1 x6_1 l0_0 l0_1=some (r1,r2))∧Aside0 (kq≤k)∧Aside0 (w'.heap[gb109]?=some (.cells #[(.slice A0_0 l0_0.length c0_0),(.slice A0_1 l0_1.length c0_1)] 30 (0,0)))∧Aside0 (Below w.heap.size w w')));(case atStart=>exact⟨(wrap64 ((l0_1.length:Int) - 1)),rS,H',⟨Nat.le_refl _⟩,⟨bk BK109.out⟩,⟨bB⟩⟩)
   case round =>
    clear H';(try clear p2);(try clear c4);(try clear c6);(try clear p6);(try clear hcz6_0);(try clear hcz6_1);(try clear hfz6_0);(try clear hfz6_1);obtain⟨x6_1,rfl,HA,HK1,BK109,HB⟩:=hrel
    cases gk with
    | zero=>exact absurd HA.out (by simp [spec_ReadSector.l0])
    | succ k1 =>
     have H:=HA.out;clear HA;simp only [spec_ReadSector.l0] at H;by_cases c7:x6_1≥0
     ·
      rw [if_pos c7] at H;have c7b0:decide (0≤x6_1)=true:=decide_eq_true c7;clear c7;by_cases c8:0≤x6_1
      ·
       rw [if_pos c8] at H;have c8b0:decide (0≤x6_1)=true:=decide_eq_true c8;clear c8;by_cases c9:x6_1 < (l0_1.length:Int)
       ·
        rw [if_pos c9] at H;have c9b0:decide (x6_1 < (l0_1.length:Int))=true:=decide_eq_true c9;clear c9;by_cases c10:((rd_T78 l0_1 x6_1).f0)=a1
        · rw [if_pos c10] at H;have c10b0:(((rd_T78 l0_1 x6_1).f0)==a1)=true:=beq_iff_eq.mpr c10;have c10b1:(((rd_T78 l0_1 x6_1).f0) != a1)=false:=bne_eq_false_iff_eq.mpr c10;clear c10;simp only [oI,pI] at H;obtain⟨rfl,rfl⟩:=H;obtain⟨hcz11_0,hcz11_1,hfz11_0,hfz11_1⟩:=b2 BK109;(have p111:0≤(x6_1:Int):=of_decide_eq_true (by first|(with_reducible assumption)|assumption));(have q111:x6_1 < (l0_1.length:Int):=of_decide_eq_true (by first|(with_reducible assumption)|assumption));obtain⟨ad111,e111,hx111_0,hx111_1⟩:=at_T78 HR0_1.out x6_1 p111 q111;cases e111;replace hx111_0:=(HB.out.cell (World.block_lt_of_cell? w _ hx111_0)).trans hx111_0;replace hx111_1:=(HB.out.cell (World.block_lt_of_cell? w _ hx111_1)).trans hx111_1;replace p111:=eq_true p111;replace q111:=eq_true q111;(have p112:0≤(x6_1:Int):=of_decide_eq_true (by first|(with_reducible assumption)|assumption));(have q112:x6_1 < (l0_1.length:Int):=of_decide_eq_true (by first|(with_reducible assumption)|assumption));obtain⟨ad112,e112,hx112_0,hx112_1⟩:=at_T78 HR0_1.out x6_1 p112 q112;(obtain rfl:ad111=ad112:=(by injection e112));replace hx112_0:=(HB.out.cell (World.block_lt_of_cell? w _ hx112_0)).trans hx112_0;replace hx112_1:=(HB.out.cell (World.block_lt_of_cell? w _ hx112_1)).trans hx112_1;replace p112:=eq_true p112;replace q112:=eq_true q112;go_wp2;go_ret2;exact⟨eF,bB⟩
        rw [if_neg c10] at H;have c10b0:(((rd_T78 l0_1 x6_1).f0)==a1)=false:=beq_eq_false_iff_ne.mpr c10;have c10b1:(((rd_T78 l0_1 x6_1).f0) != a1)=true:=bne_iff_ne.mpr c10;have H':=Aside0.mk H;clear H;obtain⟨hcz12_0,hcz12_1,hfz12_0,hfz12_1⟩:=b2 BK109;(have p111:0≤(x6_1:Int):=of_decide_eq_true (by first|(with_reducible assumption)|assumption));(have q111:x6_1 < (l0_1.length:Int):=of_decide_eq_true (by first|(with_reducible assumption)|assumption));obtain⟨ad111,e111,hx111_0,hx111_1⟩:=at_T78 HR0_1.out x6_1 p111 q111;cases e111;replace hx111_0:=(HB.out.cell (World.block_lt_of_cell? w _ hx111_0)).trans hx111_0;replace hx111_1:=(HB.out.cell (World.block_lt_of_cell? w _ hx111_1)).trans hx111_1;replace p111:=eq_true p111;replace q111:=eq_true q111;go_wp2;go_roundg k1;(case measure=>have:=HK1.out;omega);(case rel=>exact⟨(wrap64 (x6_1 - 1)),rS,H',⟨by have:=HK1.out;omega⟩,⟨bk BK109.out⟩,⟨bB⟩⟩)
       rw [if_neg c9] at H;(exact absurd H (by simp))
      rw [if_neg c8] at H;(exact absurd H (by simp))
     rw [if_neg c7] at H;have c7b0:decide (0≤x6_1)=false:=decide_eq_false c7;clear c7;by_cases c13:0≤a1
     ·
      rw [if_pos c13] at H;have c13b0:decide (0≤a1)=true:=decide_eq_true c13;clear c13;by_cases c14:a1 < (l0_0.length:Int)
      · rw [if_pos c14] at H;have c14b0:decide (a1 < (l0_0.length:Int))=true:=decide_eq_true c14;clear c14;simp only [oI,pI] at H;obtain⟨rfl,rfl⟩:=H;obtain⟨hcz15_0,hcz15_1,hfz15_0,hfz15_1⟩:=b2 BK109;(have p113:0≤(a1:Int):=of_decide_eq_true (by first|(with_reducible assumption)|assumption));(have q113:a1 < (l0_0.length:Int):=of_decide_eq_true (by first|(with_reducible assumption)|assumption));obtain⟨ad113,e113,hx113_0⟩:=Kd.at_string HR0_0.out a1 p113 q113;cases e113;replace hx113_0:=(HB.out.cell (World.block_lt_of_cell? w _ hx113_0)).trans hx113_0;replace p113:=eq_true p113;replace q113:=eq_true q113;go_wp2;go_ret2;exact⟨eF,bB⟩
      rw [if_neg c14] at H;(exact absurd H (by simp))
     rw [if_neg c13] at H;(exact absurd H (by simp))
  replace c4:=Bool.eq_false_iff.mpr c4;subst c4;rw [if_neg (show ¬ (false=true) by decide)] at H;(try dsimp only at H);simp only [oI,pI] at H;obtain⟨rfl,rfl⟩:=H;go_enter Try.func93,Try.ntmps93;(go_wp2_with (first|((with_reducible refine gD 2 ?_);refine bE (N:=2) (cs:=#[.slice A0_0 l0_0.length c0_0, .slice A0_1 l0_1.length c0_1]) (t:=30) ?_;intro gb109 hg w16 hbox hb;have BK109:=Aside0.mk (hbox);have GW109:=gW hg;have GE109:=GW109;replace HB:=bS hb;clear hb hbox hg;obtain⟨hcz17_0,hcz17_1,hfz17_0,hfz17_1⟩:=b2 BK109)|((with_reducible refine gC 64 ?_);refine gL (some 12) Try.func64 #[.int .i64 a1, .int .i64 0, .int .i64 (wrap64 ((l0_0.length:Int) - 1))] ?_;(with_reducible refine (spec_l01In.calls a1 0 (wrap64 ((l0_0.length:Int) - 1)) false _ A3.out).mono ?_);rintro e w' ⟨rfl,⟨nd,rfl⟩⟩;refine⟨_,rfl,?_⟩)));go_ret2;exact⟨eF,bB⟩

def spec_l04Byte.f (k:Nat) (l0_0:List ByteArray) (l0_1:List (S78)) (a1:Int):Option (Int):=(spec_ReadSector.f k l0_0 l0_1 a1).bind fun bt115=>(if bt115.2=true then (if bt115.1.toList=([]:List UInt8) then (some 0) else (if 0 < (bt115.1.size:Int) then (some (wrap64 (bt bt115.1 0))) else (none))) else (some 0))
theorem spec_l04Byte.mono:∀ a0 a1 a2 k,LeO (spec_l04Byte.f k a0 a1 a2) (spec_l04Byte.f (k+1) a0 a1 a2):=by
  intro a0 a1 a2 k;unfold spec_l04Byte.f;(repeat' (with_reducible first|apply spec_ReadSector.mono|exact LeO.refl _|exact LeO.none _|refine LeO.ite ?_ ?_|refine LeO.bind ?_ (fun _=>?_)))
set_option maxHeartbeats 8000000 in
set_option maxRecDepth 100000 in
theorem spec_l04Byte.calls (k:Nat) (A0_0:Option Addr) (c0_0:Nat) (l0_0:List ByteArray) (A0_1:Option Addr) (c0_1:Nat) (l0_1:List (S78)) (a1:Int) (r:Int) (w:World) (hr0_0:Kd.C Kd.string w A0_0 l0_0.length l0_0) (hc0_0:l0_0.length≤c0_0) (hr0_1:Kd.C k78 w A0_1 l0_1.length l0_1) (hc0_1:l0_1.length≤c0_1) (h:spec_l04Byte.f k l0_0 l0_1 a1=some r) :
    Calls Try.prog 67 #[.agg #[.slice A0_0 l0_0.length c0_0, .slice A0_1 l0_1.length c0_1], .int .i64 a1] w fun e w'=>e=.returned (.int .i64 r)∧Below w.heap.size w w':=by
  have hu30:=Try.underlying30;have HR0_0:=Aside0.mk hr0_0;have HC0_0:=Aside0.mk hc0_0;clear hr0_0 hc0_0;have HR0_1:=Aside0.mk hr0_1;have HC0_1:=Aside0.mk hc0_1;clear hr0_1 hc0_1;have HB:=Aside0.mk (Below.refl w.heap.size w);have H:=h;clear h;unfold spec_l04Byte.f at H;replace H:=oB H;obtain⟨⟨t115,t116⟩,A30,H⟩:=H;(try dsimp only at H);have A3:=Aside0.mk A30;clear A30;by_cases c4:t116=true
  ·
   subst c4;rw [if_pos rfl] at H;(try dsimp only at H);by_cases c5:t115.toList=([]:List UInt8)
   · rw [if_pos c5] at H;have c5b0:(t115.toList==([]:List UInt8))=true:=beq_iff_eq.mpr c5;have c5b1:(t115.toList != ([]:List UInt8))=false:=bne_eq_false_iff_eq.mpr c5;clear c5;obtain rfl:=Option.some.inj H;go_enter Try.func67,Try.ntmps67;(go_wp2_with (first|((with_reducible refine gD 2 ?_);refine bE (N:=2) (cs:=#[.slice A0_0 l0_0.length c0_0, .slice A0_1 l0_1.length c0_1]) (t:=30) ?_;intro gb114 hg w6 hbox hb;have BK114:=Aside0.mk (hbox);have GW114:=gW hg;have GE114:=GW114;replace HB:=bS hb;clear hb hbox hg;obtain⟨hcz7_0,hcz7_1,hfz7_0,hfz7_1⟩:=b2 BK114)|((with_reducible refine gC 93 ?_);refine gL (some 10) Try.func93 #[.agg #[.slice A0_0 l0_0.length c0_0, .slice A0_1 l0_1.length c0_1], .int .i64 a1] ?_;(with_reducible refine (spec_ReadSector.calls k _ _ l0_0 _ _ l0_1 a1 t115 true _ ?side1 HC0_0.out ?side3 HC0_1.out A3.out).mono ?_);(case side1=>exact cB HR0_0);(case side3=>exact cB HR0_1);rintro e w8 ⟨rfl,hb⟩;refine⟨_,rfl,?_⟩;replace BK114:=kB BK114 hb;replace HB:=bS hb;(try clear hb))));go_ret;exact⟨eF,bB⟩
   rw [if_neg c5] at H;have c5b0:(t115.toList==([]:List UInt8))=false:=beq_eq_false_iff_ne.mpr c5;have c5b1:(t115.toList != ([]:List UInt8))=true:=bne_iff_ne.mpr c5;by_cases c9:0 < (t115.size:Int)
   · rw [if_pos c9] at H;have c9b0:decide (0 < (t115.size:Int))=true:=decide_eq_true c9;(have c9b1:decide (0 < t115.size)=true:=decide_eq_true (by omega));clear c9;obtain rfl:=Option.some.inj H;go_enter Try.func67,Try.ntmps67;(go_wp2_with (first|((with_reducible refine gD 2 ?_);refine bE (N:=2) (cs:=#[.slice A0_0 l0_0.length c0_0, .slice A0_1 l0_1.length c0_1]) (t:=30) ?_;intro gb114 hg w11 hbox hb;have BK114:=Aside0.mk (hbox);have GW114:=gW hg;have GE114:=GW114;replace HB:=bS hb;clear hb hbox hg;obtain⟨hcz12_0,hcz12_1,hfz12_0,hfz12_1⟩:=b2 BK114)|((with_reducible refine gC 93 ?_);refine gL (some 10) Try.func93 #[.agg #[.slice A0_0 l0_0.length c0_0, .slice A0_1 l0_1.length c0_1], .int .i64 a1] ?_;(with_reducible refine (spec_ReadSector.calls k _ _ l0_0 _ _ l0_1 a1 t115 true _ ?side1 HC0_0.out ?side3 HC0_1.out A3.out).mono ?_);(case side1=>exact cB HR0_0);(case side3=>exact cB HR0_1);rintro e w13 ⟨rfl,hb⟩;refine⟨_,rfl,?_⟩;replace BK114:=kB BK114 hb;replace HB:=bS hb;(try clear hb);have p10:0≤(0:Int):=(by omega);have q10:0 < t115.size:=(by have:(0:Int) < (t115.size:Int):=of_decide_eq_true (by first|(with_reducible assumption)|assumption);omega);have hx10:∀ h:0 < t115.size,((t115[0]'h).toNat:Int)=bt t115 0:=bt_at t115 0;clear p10;have qi10:(0 < (t115.size:Int))=True:=eq_true (of_decide_eq_true (by first|(with_reducible assumption)|assumption));replace q10:=eq_true q10)));go_ret;exact⟨eF,bB⟩
   rw [if_neg c9] at H;(exact absurd H (by simp))
  replace c4:=Bool.eq_false_iff.mpr c4;subst c4;rw [if_neg (show ¬ (false=true) by decide)] at H;(try dsimp only at H);obtain rfl:=Option.some.inj H;go_enter Try.func67,Try.ntmps67;(go_wp2_with (first|((with_reducible refine gD 2 ?_);refine bE (N:=2) (cs:=#[.slice A0_0 l0_0.length c0_0, .slice A0_1 l0_1.length c0_1]) (t:=30) ?_;intro gb114 hg w14 hbox hb;have BK114:=Aside0.mk (hbox);have GW114:=gW hg;have GE114:=GW114;replace HB:=bS hb;clear hb hbox hg;obtain⟨hcz15_0,hcz15_1,hfz15_0,hfz15_1⟩:=b2 BK114)|((with_reducible refine gC 93 ?_);refine gL (some 10) Try.func93 #[.agg #[.slice A0_0 l0_0.length c0_0, .slice A0_1 l0_1.length c0_1], .int .i64 a1] ?_;(with_reducible refine (spec_ReadSector.calls k _ _ l0_0 _ _ l0_1 a1 t115 false _ ?side1 HC0_0.out ?side3 HC0_1.out A3.out).mono ?_);(case side1=>exact cB HR0_0);(case side3=>exact cB HR0_1);rintro e w16 ⟨rfl,hb⟩;refine⟨_,rfl,?_⟩;replace BK114:=kB BK114 hb;replace HB:=bS hb;(try clear hb))));go_ret;exact⟨eF,bB⟩

def spec_CountIn.f (k:Nat) (l0_0:List ByteArray) (l0_1:List (S78)) (a1:Int):Option (Int):=(spec_l01In.f a1 0 1).bind fun t118=>(if t118=true then ((spec_AreaFirst.f a1).bind fun t119=>((spec_l04Byte.f k l0_0 l0_1 t119).bind fun t120=>(some t120))) else (some 0))
theorem spec_CountIn.mono:∀ a0 a1 a2 k,LeO (spec_CountIn.f k a0 a1 a2) (spec_CountIn.f (k+1) a0 a1 a2):=by
  intro a0 a1 a2 k;unfold spec_CountIn.f;(repeat' (with_reducible first|apply spec_l04Byte.mono|exact LeO.refl _|exact LeO.none _|refine LeO.ite ?_ ?_|refine LeO.bind ?_ (fun _=>?_)))
set_option maxHeartbeats 8000000 in
set_option maxRecDepth 100000 in
theorem spec_CountIn.calls (k:Nat) (A0_0:Option Addr) (c0_0:Nat) (l0_0:List ByteArray) (A0_1:Option Addr) (c0_1:Nat) (l0_1:List (S78)) (a1:Int) (r:Int) (w:World) (hr0_0:Kd.C Kd.string w A0_0 l0_0.length l0_0) (hc0_0:l0_0.length≤c0_0) (hr0_1:Kd.C k78 w A0_1 l0_1.length l0_1) (hc0_1:l0_1.length≤c0_1) (h:spec_CountIn.f k l0_0 l0_1 a1=some r) :
    Calls Try.prog 36 #[.agg #[.slice A0_0 l0_0.length c0_0, .slice A0_1 l0_1.length c0_1], .int .i64 a1] w fun e w'=>e=.returned (.int .i64 r)∧Below w.heap.size w w':=by
  have hu30:=Try.underlying30;have HR0_0:=Aside0.mk hr0_0;have HC0_0:=Aside0.mk hc0_0;clear hr0_0 hc0_0;have HR0_1:=Aside0.mk hr0_1;have HC0_1:=Aside0.mk hc0_1;clear hr0_1 hc0_1;have HB:=Aside0.mk (Below.refl w.heap.size w);have H:=h;clear h;unfold spec_CountIn.f at H;replace H:=oB H;obtain⟨t118,A30,H⟩:=H;(try dsimp only at H);have A3:=Aside0.mk A30;clear A30;by_cases c4:t118=true
  ·
   subst c4;rw [if_pos rfl] at H;(try dsimp only at H);replace H:=oB H;obtain⟨t119,A50,H⟩:=H;(try dsimp only at H);have A5:=Aside0.mk A50;clear A50;replace H:=oB H;obtain⟨t120,A60,H⟩:=H;(try dsimp only at H);have A6:=Aside0.mk A60;clear A60;obtain rfl:=Option.some.inj H;go_enter Try.func36,Try.ntmps36;(try go_wp2_with (first|((with_reducible refine gD 2 ?_);refine bE (N:=2) (cs:=#[.slice A0_0 l0_0.length c0_0, .slice A0_1 l0_1.length c0_1]) (t:=30) ?_;intro gb117 hg w7 hbox hb;have BK117:=Aside0.mk (hbox);have GW117:=gW hg;have GE117:=GW117;replace HB:=bS hb;clear hb hbox hg)|((with_reducible refine gC 64 ?_);refine gL (some 6) Try.func64 #[.int .i64 a1, .int .i64 0, .int .i64 1] ?_;(with_reducible refine (spec_l01In.calls a1 0 1 true _ A3.out).mono ?_);rintro e w' ⟨rfl,⟨nd,rfl⟩⟩;refine⟨_,rfl,?_⟩)));(try (rw [drewN_self w7];generalize hq_:World.drewN w7 _=w7;have n0_:Aside0 (w7.heap[gb117]?=some (.cells #[.slice A0_0 l0_0.length c0_0, .slice A0_1 l0_1.length c0_1] 30 (0,0))):=⟨by rw [← hq_];exact (bk BK117.out)⟩;have n1_:Aside0 (Below w.heap.size w w7):=⟨by rw [← hq_];exact bB⟩;clear BK117 HB hq_;have BK117:=n0_;have HB:=n1_;clear n0_ n1_));replace BK117:=Aside0.mk (blk_drew BK117.out);replace HB:=Aside0.mk (below_drew1 HB.out);(refine start_ (n:=5) (S:=fun w'=>w'.cell? ⟨gb117,0,none⟩=some (.slice A0_0 l0_0.length c0_0)∧w'.cell? ⟨gb117,1,none⟩=some (.slice A0_1 l0_1.length c0_1)) (ds:=[]) #[F,F,F,F,F] (by kernel_rfl) rfl rfl (b3 BK117) (fun hHeld=>?_));generalize w7.drew=w8 at BK117 HB hHeld ⊢;(refine pure_ (i:=1) (N:=some 9) (v:=?_) (a':=?_) #[F,T,F,F,F] rfl rfl (by kernel_rfl) (fun _ _ _ h=>h) (Or.inl ⟨by rfl,?_⟩) ?_ ?_);rotate_left
   · intro w';go_simp;(with_reducible rfl)
   rotate_left
   · simp only [Act.put,lB,lZ,lS,i64_w,i32_w];rfl
   (refine take_ (i:=0) (N:=some 8) (v:=?_) (a':=?_) #[T,T,F,F,F] rfl rfl (by kernel_rfl) (fun _ _ _ h=>h) (Or.inl ⟨by rfl,?_⟩) hHeld ?_ ?_);rotate_left
   · rintro w' ⟨s0,s1⟩;go_simp;(with_reducible rfl)
   rotate_left
   · simp only [Act.put,lB,lZ,lS,i64_w,i32_w];rfl
   (refine one_ (i:=2) (N:=some 10) #[T,T,T,F,F] rfl rfl (by kernel_rfl) (by decide) (fun K hK=>?_));(refine gO Try.func38 #[.int .i64 a1] ?_);(with_reducible refine (spec_AreaFirst.calls a1 t119 _ A5.out).mono ?_);rintro e w' ⟨rfl,⟨nd,rfl⟩⟩;refine⟨_,rfl,?_⟩;(refine hK.out _ _ (b3 BK117) (fun hHeld=>?_));clear hK K;refine nT ?_;(refine one_ (i:=3) (N:=some 11) #[T,T,T,T,F] rfl rfl (by kernel_rfl) (by decide) (fun K hK=>?_));(refine gO Try.func67 #[.agg #[.slice A0_0 l0_0.length c0_0, .slice A0_1 l0_1.length c0_1], .int .i64 t119] ?_);(with_reducible refine (spec_l04Byte.calls k _ _ l0_0 _ _ l0_1 t119 t120 _ ?side1 HC0_0.out ?side3 HC0_1.out A6.out).mono ?_);(case side1=>repeat (first|exact (Kd.C_below HR0_0.out bB)|(with_reducible refine Kd.C_alloc ?_ _)|(with_reducible refine Kd.C_drewN ?_ _)|(with_reducible refine Kd.C_drew ?_)));(case side3=>repeat (first|exact (Kd.C_below HR0_1.out bB)|(with_reducible refine Kd.C_alloc ?_ _)|(with_reducible refine Kd.C_drewN ?_ _)|(with_reducible refine Kd.C_drew ?_)));rintro e w9 ⟨rfl,hb⟩;refine⟨_,rfl,?_⟩;replace BK117:=kB BK117 hb;replace HB:=bS hb;(try clear hb);(try clear hb2);(try clear hk);(try clear hi);(refine hK.out _ _ (b3 BK117) (fun hHeld=>?_));clear hK K;refine nT ?_;(refine pure_ (i:=4) (N:=some 4) (v:=?_) (a':=?_) #[T,T,T,T,T] rfl rfl (by kernel_rfl) (fun _ _ _ h=>h) (Or.inl ⟨by rfl,?_⟩) ?_ ?_);rotate_left
   · intro w';go_simp;(with_reducible rfl)
   rotate_left
   · simp only [Act.put,lB,lZ,lS,i64_w,i32_w];rfl
   (refine done_ (by kernel_rfl) ?_);(try go_wp2);go_ret;exact⟨eF,bB⟩
  replace c4:=Bool.eq_false_iff.mpr c4;subst c4;rw [if_neg (show ¬ (false=true) by decide)] at H;(try dsimp only at H);obtain rfl:=Option.some.inj H;go_enter Try.func36,Try.ntmps36;(go_wp2_with (first|((with_reducible refine gD 2 ?_);refine bE (N:=2) (cs:=#[.slice A0_0 l0_0.length c0_0, .slice A0_1 l0_1.length c0_1]) (t:=30) ?_;intro gb117 hg w10 hbox hb;have BK117:=Aside0.mk (hbox);have GW117:=gW hg;have GE117:=GW117;replace HB:=bS hb;clear hb hbox hg)|((with_reducible refine gC 64 ?_);refine gL (some 6) Try.func64 #[.int .i64 a1, .int .i64 0, .int .i64 1] ?_;(with_reducible refine (spec_l01In.calls a1 0 1 false _ A3.out).mono ?_);rintro e w' ⟨rfl,⟨nd,rfl⟩⟩;refine⟨_,rfl,?_⟩)));go_ret;exact⟨eF,bB⟩

end Go.Proofs.Ytjnghaajmdaggaa.QFnExactSwitchLog
