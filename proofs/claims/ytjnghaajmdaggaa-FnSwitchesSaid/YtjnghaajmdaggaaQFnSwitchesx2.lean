/- Sq: Go functions as Lean functions, and that the code comes to what they say: written by this session's program. Conditions: as each theorem states. -/
import Derived.Test.YtjnghaajmdaggaaQFnSwitchesx0
namespace Go.Proofs.Ytjnghaajmdaggaa.QFnSwitches
open Go.RowKit Go.Proofs.YtjnghaajmdaggaaW.PrintWords Go.Proofs.YtjnghaajmdaggaaW.PrintLast Go.Proofs.YtjnghaajmdaggaaW.PrintMore Go.Proofs.YtjnghaajmdaggaaW.Sh
attribute [local go_sem] max2_int min2_int max_two min_two max_three min_three max_four min_four
set_option linter.unusedVariables false
set_option linter.unusedSimpArgs false

def spec_l01In.f (a0:Int) (a1:Int) (a2:Int):Option (Bool):=if a0≥a1 then (some (decide (a0≤a2))) else (some false)
set_option maxHeartbeats 8000000 in
set_option maxRecDepth 100000 in
theorem spec_l01In.calls (a0:Int) (a1:Int) (a2:Int) (r:Bool) (w:World) (h:spec_l01In.f a0 a1 a2=some r) :
    Calls Try.prog 64 #[.int .i64 a0, .int .i64 a1, .int .i64 a2] w fun e w'=>e=.returned (.bool r)∧Drawn0 w w':=by
  have H:(if a0≥a1 then (some (decide (a0≤a2))) else (some false))=some r:=h;clear h;by_cases c4:a0≥a1
  · rw [if_pos c4] at H;have c4b0:decide (a1≤a0)=true:=decide_eq_true c4;clear c4;obtain rfl:=Option.some.inj H;go_enter Try.func64,Try.ntmps64;go_wp2;go_ret;(exact⟨by first|rfl|(simp;done)|(simp [*];done),by repeat (first|exact Drawn0.refl _|apply Drawn0.step)⟩)
  rw [if_neg c4] at H;have c4b0:decide (a1≤a0)=false:=decide_eq_false c4;clear c4;obtain rfl:=Option.some.inj H;go_enter Try.func64,Try.ntmps64;go_wp2;go_ret;(exact⟨by first|rfl|(simp;done)|(simp [*];done),by repeat (first|exact Drawn0.refl _|apply Drawn0.step)⟩)

def spec_AreaFirst.f (a0:Int):Option (Int):=(spec_l01In.f a0 0 1).bind fun t101=>(if t101=true then (some (wrap64 (1+(wrap64 (a0 * 48))))) else (some 0))
set_option maxHeartbeats 8000000 in
set_option maxRecDepth 100000 in
theorem spec_AreaFirst.calls (a0:Int) (r:Int) (w:World) (h:spec_AreaFirst.f a0=some r) :
    Calls Try.prog 38 #[.int .i64 a0] w fun e w'=>e=.returned (.int .i64 r)∧Drawn0 w w':=by
  have H:=h;clear h;unfold spec_AreaFirst.f at H;replace H:=oB H;obtain⟨t101,A20,H⟩:=H;(try dsimp only at H);have A2:=Aside0.mk A20;clear A20;by_cases c3:t101=true
  · subst c3;rw [if_pos rfl] at H;(try dsimp only at H);obtain rfl:=Option.some.inj H;go_enter Try.func38,Try.ntmps38;(go_wp2_with (first|((with_reducible refine gC 64 ?_);refine gL (some 4) Try.func64 #[.int .i64 a0, .int .i64 0, .int .i64 1] ?_;(with_reducible refine (spec_l01In.calls a0 0 1 true _ A2.out).mono ?_);rintro e w' ⟨rfl,⟨nd,rfl⟩⟩;refine⟨_,rfl,?_⟩)));go_ret;(exact⟨by first|rfl|(simp;done)|(simp [*];done),by repeat (first|exact Drawn0.refl _|apply Drawn0.step)⟩)
  replace c3:=Bool.eq_false_iff.mpr c3;subst c3;rw [if_neg (show ¬ (false=true) by decide)] at H;(try dsimp only at H);obtain rfl:=Option.some.inj H;go_enter Try.func38,Try.ntmps38;(go_wp2_with (first|((with_reducible refine gC 64 ?_);refine gL (some 4) Try.func64 #[.int .i64 a0, .int .i64 0, .int .i64 1] ?_;(with_reducible refine (spec_l01In.calls a0 0 1 false _ A2.out).mono ?_);rintro e w' ⟨rfl,⟨nd,rfl⟩⟩;refine⟨_,rfl,?_⟩)));go_ret;(exact⟨by first|rfl|(simp;done)|(simp [*];done),by repeat (first|exact Drawn0.refl _|apply Drawn0.step)⟩)

def spec_ReadSector.l0:Nat→Int→Int→List ByteArray→List (S78)→Option (ByteArray×Bool)
  | 0,_,_,_,_=>none
  | k+1,x1,x6,x103000,x103001=>if x6≥0 then (if 0≤x6 then (if x6 < (x103001.length:Int) then (if ((rd_T78 x103001 x6).f0)=x1 then (some ((rd_T78 x103001 x6).f1,true)) else (spec_ReadSector.l0 k x1 (wrap64 (x6 - 1)) x103000 x103001)) else (none)) else (none)) else (if 0≤x1 then (if x1 < (x103000.length:Int) then (some (rdOf ByteArray.empty x103000 x1,true)) else (none)) else (none))
def spec_ReadSector.f (k:Nat) (l0_0:List ByteArray) (l0_1:List (S78)) (a1:Int):Option (ByteArray×Bool):=(spec_l01In.f a1 0 (wrap64 ((l0_0.length:Int) - 1))).bind fun t103=>(if t103=true then (spec_ReadSector.l0 k a1 (wrap64 ((l0_1.length:Int) - 1)) l0_0 l0_1) else (some ((⟨#[]⟩:ByteArray),false)))
theorem spec_ReadSector.mono_l:∀ k,(∀ y0 y1 y2 y3,LeO (spec_ReadSector.l0 k y0 y1 y2 y3) (spec_ReadSector.l0 (k+1) y0 y1 y2 y3))
  | 0=>fun _ _ _ _ r h=>by simp [spec_ReadSector.l0] at h
  | k+1=>by
    have ih0:=spec_ReadSector.mono_l k
    · intro y0 y1 y2 y3
      unfold spec_ReadSector.l0
      repeat' (with_reducible first|apply ih0|exact LeO.refl _|exact LeO.none _|refine LeO.ite ?_ ?_|refine LeO.bind ?_ (fun _=>?_))
theorem spec_ReadSector.mono:∀ a0 a1 a2 k,LeO (spec_ReadSector.f k a0 a1 a2) (spec_ReadSector.f (k+1) a0 a1 a2):=by
  intro a0 a1 a2 k;have ih0:=spec_ReadSector.mono_l k;unfold spec_ReadSector.f;(repeat' (with_reducible first|apply ih0|exact LeO.refl _|exact LeO.none _|refine LeO.ite ?_ ?_|refine LeO.bind ?_ (fun _=>?_)))
set_option maxHeartbeats 8000000 in
set_option maxRecDepth 100000 in
theorem spec_ReadSector.calls (k:Nat) (A0_0:Option Addr) (c0_0:Nat) (l0_0:List ByteArray) (A0_1:Option Addr) (c0_1:Nat) (l0_1:List (S78)) (a1:Int) (r1:ByteArray) (r2:Bool) (w:World) (hr0_0:Kd.C Kd.string w A0_0 l0_0.length l0_0) (hc0_0:l0_0.length≤c0_0) (hr0_1:Kd.C k78 w A0_1 l0_1.length l0_1) (hc0_1:l0_1.length≤c0_1) (h:spec_ReadSector.f k l0_0 l0_1 a1=some (r1,r2)) :
    Calls Try.prog 93 #[.agg #[.slice A0_0 l0_0.length c0_0, .slice A0_1 l0_1.length c0_1], .int .i64 a1] w fun e w'=>e=.returned (.tuple #[.string r1, .bool r2])∧Below w.heap.size w w':=by
  have hu30:=Try.underlying30;have HR0_0:=Aside0.mk hr0_0;have HC0_0:=Aside0.mk hc0_0;clear hr0_0 hc0_0;have HR0_1:=Aside0.mk hr0_1;have HC0_1:=Aside0.mk hc0_1;clear hr0_1 hc0_1;have HB:=Aside0.mk (Below.refl w.heap.size w);have H:=h;clear h;unfold spec_ReadSector.f at H;replace H:=oB H;obtain⟨t103,A30,H⟩:=H;(try dsimp only at H);have A3:=Aside0.mk A30;clear A30;by_cases c4:t103=true
  ·
   subst c4;rw [if_pos rfl] at H;(try dsimp only at H);have H':=Aside0.mk H;clear H;go_enter Try.func93,Try.ntmps93;(go_wp2_with (first|((with_reducible refine gD 2 ?_);refine bE (N:=2) (cs:=#[.slice A0_0 l0_0.length c0_0, .slice A0_1 l0_1.length c0_1]) (t:=30) ?_;intro gb102 hg w5 hbox hb;have BK102:=Aside0.mk (hbox);have GW102:=gW hg;have GE102:=GW102;replace HB:=bS hb;clear hb hbox hg;obtain⟨hcz6_0,hcz6_1,hfz6_0,hfz6_1⟩:=b2 BK102)|((with_reducible refine gC 64 ?_);refine gL (some 12) Try.func64 #[.int .i64 a1, .int .i64 0, .int .i64 (wrap64 ((l0_0.length:Int) - 1))] ?_;(with_reducible refine (spec_l01In.calls a1 0 (wrap64 ((l0_0.length:Int) - 1)) true _ A3.out).mono ?_);rintro e w' ⟨rfl,⟨nd,rfl⟩⟩;refine⟨_,rfl,?_⟩)));(go_loopg [6] k (fun kq v6 w' => ∃ (x6_1:Int),v6=.int .i64 x6_1∧Aside0 (spec_ReadSector.l0 kq a1 x6_1 l0_0 l0_1=some (r1,r2))∧Aside0 (kq≤k)∧Aside0 (w'.heap[gb102]?=some (.cells #[(.slice A0_0 l0_0.length c0_0),(.slice A0_1 l0_1.length c0_1)] 30 (0,0)))∧Aside0 (Below w.heap.size w w')));(case atStart=>exact⟨(wrap64 ((l0_1.length:Int) - 1)),rS,H',⟨Nat.le_refl _⟩,⟨bk BK102.out⟩,⟨bB⟩⟩)
   case round =>
    clear H';(try clear p2);(try clear c4);(try clear c6);(try clear p6);(try clear hcz6_0);(try clear hcz6_1);(try clear hfz6_0);(try clear hfz6_1);obtain⟨x6_1,rfl,HA,HK1,BK102,HB⟩:=hrel
    cases gk with
    | zero=>exact absurd HA.out (by simp [spec_ReadSector.l0])
    | succ k1 =>
     have H:=HA.out;clear HA;simp only [spec_ReadSector.l0] at H;by_cases c7:x6_1≥0
     ·
      rw [if_pos c7] at H;have c7b0:decide (0≤x6_1)=true:=decide_eq_true c7;clear c7;by_cases c8:0≤x6_1
      ·
       rw [if_pos c8] at H;have c8b0:decide (0≤x6_1)=true:=decide_eq_true c8;clear c8;by_cases c9:x6_1 < (l0_1.length:Int)
       ·
        rw [if_pos c9] at H;have c9b0:decide (x6_1 < (l0_1.length:Int))=true:=decide_eq_true c9;clear c9;by_cases c10:((rd_T78 l0_1 x6_1).f0)=a1
        · rw [if_pos c10] at H;have c10b0:(((rd_T78 l0_1 x6_1).f0)==a1)=true:=beq_iff_eq.mpr c10;have c10b1:(((rd_T78 l0_1 x6_1).f0) != a1)=false:=bne_eq_false_iff_eq.mpr c10;clear c10;simp only [oI,pI] at H;obtain⟨rfl,rfl⟩:=H;obtain⟨hcz11_0,hcz11_1,hfz11_0,hfz11_1⟩:=b2 BK102;(have p104:0≤(x6_1:Int):=of_decide_eq_true (by first|(with_reducible assumption)|assumption));(have q104:x6_1 < (l0_1.length:Int):=of_decide_eq_true (by first|(with_reducible assumption)|assumption));obtain⟨ad104,e104,hx104_0,hx104_1⟩:=at_T78 HR0_1.out x6_1 p104 q104;cases e104;replace hx104_0:=(HB.out.cell (World.block_lt_of_cell? w _ hx104_0)).trans hx104_0;replace hx104_1:=(HB.out.cell (World.block_lt_of_cell? w _ hx104_1)).trans hx104_1;replace p104:=eq_true p104;replace q104:=eq_true q104;(have p105:0≤(x6_1:Int):=of_decide_eq_true (by first|(with_reducible assumption)|assumption));(have q105:x6_1 < (l0_1.length:Int):=of_decide_eq_true (by first|(with_reducible assumption)|assumption));obtain⟨ad105,e105,hx105_0,hx105_1⟩:=at_T78 HR0_1.out x6_1 p105 q105;(obtain rfl:ad104=ad105:=(by injection e105));replace hx105_0:=(HB.out.cell (World.block_lt_of_cell? w _ hx105_0)).trans hx105_0;replace hx105_1:=(HB.out.cell (World.block_lt_of_cell? w _ hx105_1)).trans hx105_1;replace p105:=eq_true p105;replace q105:=eq_true q105;go_wp2;go_ret2;exact⟨eF,bB⟩
        rw [if_neg c10] at H;have c10b0:(((rd_T78 l0_1 x6_1).f0)==a1)=false:=beq_eq_false_iff_ne.mpr c10;have c10b1:(((rd_T78 l0_1 x6_1).f0) != a1)=true:=bne_iff_ne.mpr c10;have H':=Aside0.mk H;clear H;obtain⟨hcz12_0,hcz12_1,hfz12_0,hfz12_1⟩:=b2 BK102;(have p104:0≤(x6_1:Int):=of_decide_eq_true (by first|(with_reducible assumption)|assumption));(have q104:x6_1 < (l0_1.length:Int):=of_decide_eq_true (by first|(with_reducible assumption)|assumption));obtain⟨ad104,e104,hx104_0,hx104_1⟩:=at_T78 HR0_1.out x6_1 p104 q104;cases e104;replace hx104_0:=(HB.out.cell (World.block_lt_of_cell? w _ hx104_0)).trans hx104_0;replace hx104_1:=(HB.out.cell (World.block_lt_of_cell? w _ hx104_1)).trans hx104_1;replace p104:=eq_true p104;replace q104:=eq_true q104;go_wp2;go_roundg k1;(case measure=>have:=HK1.out;omega);(case rel=>exact⟨(wrap64 (x6_1 - 1)),rS,H',⟨by have:=HK1.out;omega⟩,⟨bk BK102.out⟩,⟨bB⟩⟩)
       rw [if_neg c9] at H;(exact absurd H (by simp))
      rw [if_neg c8] at H;(exact absurd H (by simp))
     rw [if_neg c7] at H;have c7b0:decide (0≤x6_1)=false:=decide_eq_false c7;clear c7;by_cases c13:0≤a1
     ·
      rw [if_pos c13] at H;have c13b0:decide (0≤a1)=true:=decide_eq_true c13;clear c13;by_cases c14:a1 < (l0_0.length:Int)
      · rw [if_pos c14] at H;have c14b0:decide (a1 < (l0_0.length:Int))=true:=decide_eq_true c14;clear c14;simp only [oI,pI] at H;obtain⟨rfl,rfl⟩:=H;obtain⟨hcz15_0,hcz15_1,hfz15_0,hfz15_1⟩:=b2 BK102;(have p106:0≤(a1:Int):=of_decide_eq_true (by first|(with_reducible assumption)|assumption));(have q106:a1 < (l0_0.length:Int):=of_decide_eq_true (by first|(with_reducible assumption)|assumption));obtain⟨ad106,e106,hx106_0⟩:=Kd.at_string HR0_0.out a1 p106 q106;cases e106;replace hx106_0:=(HB.out.cell (World.block_lt_of_cell? w _ hx106_0)).trans hx106_0;replace p106:=eq_true p106;replace q106:=eq_true q106;go_wp2;go_ret2;exact⟨eF,bB⟩
      rw [if_neg c14] at H;(exact absurd H (by simp))
     rw [if_neg c13] at H;(exact absurd H (by simp))
  replace c4:=Bool.eq_false_iff.mpr c4;subst c4;rw [if_neg (show ¬ (false=true) by decide)] at H;(try dsimp only at H);simp only [oI,pI] at H;obtain⟨rfl,rfl⟩:=H;go_enter Try.func93,Try.ntmps93;(go_wp2_with (first|((with_reducible refine gD 2 ?_);refine bE (N:=2) (cs:=#[.slice A0_0 l0_0.length c0_0, .slice A0_1 l0_1.length c0_1]) (t:=30) ?_;intro gb102 hg w16 hbox hb;have BK102:=Aside0.mk (hbox);have GW102:=gW hg;have GE102:=GW102;replace HB:=bS hb;clear hb hbox hg;obtain⟨hcz17_0,hcz17_1,hfz17_0,hfz17_1⟩:=b2 BK102)|((with_reducible refine gC 64 ?_);refine gL (some 12) Try.func64 #[.int .i64 a1, .int .i64 0, .int .i64 (wrap64 ((l0_0.length:Int) - 1))] ?_;(with_reducible refine (spec_l01In.calls a1 0 (wrap64 ((l0_0.length:Int) - 1)) false _ A3.out).mono ?_);rintro e w' ⟨rfl,⟨nd,rfl⟩⟩;refine⟨_,rfl,?_⟩)));go_ret2;exact⟨eF,bB⟩

def spec_l04Byte.f (k:Nat) (l0_0:List ByteArray) (l0_1:List (S78)) (a1:Int):Option (Int):=(spec_ReadSector.f k l0_0 l0_1 a1).bind fun bt108=>(if bt108.2=true then (if bt108.1.toList=([]:List UInt8) then (some 0) else (if 0 < (bt108.1.size:Int) then (some (wrap64 (bt bt108.1 0))) else (none))) else (some 0))
theorem spec_l04Byte.mono:∀ a0 a1 a2 k,LeO (spec_l04Byte.f k a0 a1 a2) (spec_l04Byte.f (k+1) a0 a1 a2):=by
  intro a0 a1 a2 k;unfold spec_l04Byte.f;(repeat' (with_reducible first|apply spec_ReadSector.mono|exact LeO.refl _|exact LeO.none _|refine LeO.ite ?_ ?_|refine LeO.bind ?_ (fun _=>?_)))
set_option maxHeartbeats 8000000 in
set_option maxRecDepth 100000 in
theorem spec_l04Byte.calls (k:Nat) (A0_0:Option Addr) (c0_0:Nat) (l0_0:List ByteArray) (A0_1:Option Addr) (c0_1:Nat) (l0_1:List (S78)) (a1:Int) (r:Int) (w:World) (hr0_0:Kd.C Kd.string w A0_0 l0_0.length l0_0) (hc0_0:l0_0.length≤c0_0) (hr0_1:Kd.C k78 w A0_1 l0_1.length l0_1) (hc0_1:l0_1.length≤c0_1) (h:spec_l04Byte.f k l0_0 l0_1 a1=some r) :
    Calls Try.prog 67 #[.agg #[.slice A0_0 l0_0.length c0_0, .slice A0_1 l0_1.length c0_1], .int .i64 a1] w fun e w'=>e=.returned (.int .i64 r)∧Below w.heap.size w w':=by
  have hu30:=Try.underlying30;have HR0_0:=Aside0.mk hr0_0;have HC0_0:=Aside0.mk hc0_0;clear hr0_0 hc0_0;have HR0_1:=Aside0.mk hr0_1;have HC0_1:=Aside0.mk hc0_1;clear hr0_1 hc0_1;have HB:=Aside0.mk (Below.refl w.heap.size w);have H:=h;clear h;unfold spec_l04Byte.f at H;replace H:=oB H;obtain⟨⟨t108,t109⟩,A30,H⟩:=H;(try dsimp only at H);have A3:=Aside0.mk A30;clear A30;by_cases c4:t109=true
  ·
   subst c4;rw [if_pos rfl] at H;(try dsimp only at H);by_cases c5:t108.toList=([]:List UInt8)
   · rw [if_pos c5] at H;have c5b0:(t108.toList==([]:List UInt8))=true:=beq_iff_eq.mpr c5;have c5b1:(t108.toList != ([]:List UInt8))=false:=bne_eq_false_iff_eq.mpr c5;clear c5;obtain rfl:=Option.some.inj H;go_enter Try.func67,Try.ntmps67;(go_wp2_with (first|((with_reducible refine gD 2 ?_);refine bE (N:=2) (cs:=#[.slice A0_0 l0_0.length c0_0, .slice A0_1 l0_1.length c0_1]) (t:=30) ?_;intro gb107 hg w6 hbox hb;have BK107:=Aside0.mk (hbox);have GW107:=gW hg;have GE107:=GW107;replace HB:=bS hb;clear hb hbox hg;obtain⟨hcz7_0,hcz7_1,hfz7_0,hfz7_1⟩:=b2 BK107)|((with_reducible refine gC 93 ?_);refine gL (some 10) Try.func93 #[.agg #[.slice A0_0 l0_0.length c0_0, .slice A0_1 l0_1.length c0_1], .int .i64 a1] ?_;(with_reducible refine (spec_ReadSector.calls k _ _ l0_0 _ _ l0_1 a1 t108 true _ ?side1 HC0_0.out ?side3 HC0_1.out A3.out).mono ?_);(case side1=>exact cB HR0_0);(case side3=>exact cB HR0_1);rintro e w8 ⟨rfl,hb⟩;refine⟨_,rfl,?_⟩;replace BK107:=kB BK107 hb;replace HB:=bS hb;(try clear hb))));go_ret;exact⟨eF,bB⟩
   rw [if_neg c5] at H;have c5b0:(t108.toList==([]:List UInt8))=false:=beq_eq_false_iff_ne.mpr c5;have c5b1:(t108.toList != ([]:List UInt8))=true:=bne_iff_ne.mpr c5;by_cases c9:0 < (t108.size:Int)
   · rw [if_pos c9] at H;have c9b0:decide (0 < (t108.size:Int))=true:=decide_eq_true c9;(have c9b1:decide (0 < t108.size)=true:=decide_eq_true (by omega));clear c9;obtain rfl:=Option.some.inj H;go_enter Try.func67,Try.ntmps67;(go_wp2_with (first|((with_reducible refine gD 2 ?_);refine bE (N:=2) (cs:=#[.slice A0_0 l0_0.length c0_0, .slice A0_1 l0_1.length c0_1]) (t:=30) ?_;intro gb107 hg w11 hbox hb;have BK107:=Aside0.mk (hbox);have GW107:=gW hg;have GE107:=GW107;replace HB:=bS hb;clear hb hbox hg;obtain⟨hcz12_0,hcz12_1,hfz12_0,hfz12_1⟩:=b2 BK107)|((with_reducible refine gC 93 ?_);refine gL (some 10) Try.func93 #[.agg #[.slice A0_0 l0_0.length c0_0, .slice A0_1 l0_1.length c0_1], .int .i64 a1] ?_;(with_reducible refine (spec_ReadSector.calls k _ _ l0_0 _ _ l0_1 a1 t108 true _ ?side1 HC0_0.out ?side3 HC0_1.out A3.out).mono ?_);(case side1=>exact cB HR0_0);(case side3=>exact cB HR0_1);rintro e w13 ⟨rfl,hb⟩;refine⟨_,rfl,?_⟩;replace BK107:=kB BK107 hb;replace HB:=bS hb;(try clear hb);have p10:0≤(0:Int):=(by omega);have q10:0 < t108.size:=(by have:(0:Int) < (t108.size:Int):=of_decide_eq_true (by first|(with_reducible assumption)|assumption);omega);have hx10:∀ h:0 < t108.size,((t108[0]'h).toNat:Int)=bt t108 0:=bt_at t108 0;clear p10;have qi10:(0 < (t108.size:Int))=True:=eq_true (of_decide_eq_true (by first|(with_reducible assumption)|assumption));replace q10:=eq_true q10)));go_ret;exact⟨eF,bB⟩
   rw [if_neg c9] at H;(exact absurd H (by simp))
  replace c4:=Bool.eq_false_iff.mpr c4;subst c4;rw [if_neg (show ¬ (false=true) by decide)] at H;(try dsimp only at H);obtain rfl:=Option.some.inj H;go_enter Try.func67,Try.ntmps67;(go_wp2_with (first|((with_reducible refine gD 2 ?_);refine bE (N:=2) (cs:=#[.slice A0_0 l0_0.length c0_0, .slice A0_1 l0_1.length c0_1]) (t:=30) ?_;intro gb107 hg w14 hbox hb;have BK107:=Aside0.mk (hbox);have GW107:=gW hg;have GE107:=GW107;replace HB:=bS hb;clear hb hbox hg;obtain⟨hcz15_0,hcz15_1,hfz15_0,hfz15_1⟩:=b2 BK107)|((with_reducible refine gC 93 ?_);refine gL (some 10) Try.func93 #[.agg #[.slice A0_0 l0_0.length c0_0, .slice A0_1 l0_1.length c0_1], .int .i64 a1] ?_;(with_reducible refine (spec_ReadSector.calls k _ _ l0_0 _ _ l0_1 a1 t108 false _ ?side1 HC0_0.out ?side3 HC0_1.out A3.out).mono ?_);(case side1=>exact cB HR0_0);(case side3=>exact cB HR0_1);rintro e w16 ⟨rfl,hb⟩;refine⟨_,rfl,?_⟩;replace BK107:=kB BK107 hb;replace HB:=bS hb;(try clear hb))));go_ret;exact⟨eF,bB⟩

def spec_CountIn.f (k:Nat) (l0_0:List ByteArray) (l0_1:List (S78)) (a1:Int):Option (Int):=(spec_l01In.f a1 0 1).bind fun t111=>(if t111=true then ((spec_AreaFirst.f a1).bind fun t112=>((spec_l04Byte.f k l0_0 l0_1 t112).bind fun t113=>(some t113))) else (some 0))
theorem spec_CountIn.mono:∀ a0 a1 a2 k,LeO (spec_CountIn.f k a0 a1 a2) (spec_CountIn.f (k+1) a0 a1 a2):=by
  intro a0 a1 a2 k;unfold spec_CountIn.f;(repeat' (with_reducible first|apply spec_l04Byte.mono|exact LeO.refl _|exact LeO.none _|refine LeO.ite ?_ ?_|refine LeO.bind ?_ (fun _=>?_)))
set_option maxHeartbeats 8000000 in
set_option maxRecDepth 100000 in
theorem spec_CountIn.calls (k:Nat) (A0_0:Option Addr) (c0_0:Nat) (l0_0:List ByteArray) (A0_1:Option Addr) (c0_1:Nat) (l0_1:List (S78)) (a1:Int) (r:Int) (w:World) (hr0_0:Kd.C Kd.string w A0_0 l0_0.length l0_0) (hc0_0:l0_0.length≤c0_0) (hr0_1:Kd.C k78 w A0_1 l0_1.length l0_1) (hc0_1:l0_1.length≤c0_1) (h:spec_CountIn.f k l0_0 l0_1 a1=some r) :
    Calls Try.prog 36 #[.agg #[.slice A0_0 l0_0.length c0_0, .slice A0_1 l0_1.length c0_1], .int .i64 a1] w fun e w'=>e=.returned (.int .i64 r)∧Below w.heap.size w w':=by
  have hu30:=Try.underlying30;have HR0_0:=Aside0.mk hr0_0;have HC0_0:=Aside0.mk hc0_0;clear hr0_0 hc0_0;have HR0_1:=Aside0.mk hr0_1;have HC0_1:=Aside0.mk hc0_1;clear hr0_1 hc0_1;have HB:=Aside0.mk (Below.refl w.heap.size w);have H:=h;clear h;unfold spec_CountIn.f at H;replace H:=oB H;obtain⟨t111,A30,H⟩:=H;(try dsimp only at H);have A3:=Aside0.mk A30;clear A30;by_cases c4:t111=true
  ·
   subst c4;rw [if_pos rfl] at H;(try dsimp only at H);replace H:=oB H;obtain⟨t112,A50,H⟩:=H;(try dsimp only at H);have A5:=Aside0.mk A50;clear A50;replace H:=oB H;obtain⟨t113,A60,H⟩:=H;(try dsimp only at H);have A6:=Aside0.mk A60;clear A60;obtain rfl:=Option.some.inj H;go_enter Try.func36,Try.ntmps36;(try go_wp2_with (first|((with_reducible refine gD 2 ?_);refine bE (N:=2) (cs:=#[.slice A0_0 l0_0.length c0_0, .slice A0_1 l0_1.length c0_1]) (t:=30) ?_;intro gb110 hg w7 hbox hb;have BK110:=Aside0.mk (hbox);have GW110:=gW hg;have GE110:=GW110;replace HB:=bS hb;clear hb hbox hg)|((with_reducible refine gC 64 ?_);refine gL (some 6) Try.func64 #[.int .i64 a1, .int .i64 0, .int .i64 1] ?_;(with_reducible refine (spec_l01In.calls a1 0 1 true _ A3.out).mono ?_);rintro e w' ⟨rfl,⟨nd,rfl⟩⟩;refine⟨_,rfl,?_⟩)));(try (rw [drewN_self w7];generalize hq_:World.drewN w7 _=w7;have n0_:Aside0 (w7.heap[gb110]?=some (.cells #[.slice A0_0 l0_0.length c0_0, .slice A0_1 l0_1.length c0_1] 30 (0,0))):=⟨by rw [← hq_];exact (bk BK110.out)⟩;have n1_:Aside0 (Below w.heap.size w w7):=⟨by rw [← hq_];exact bB⟩;clear BK110 HB hq_;have BK110:=n0_;have HB:=n1_;clear n0_ n1_));replace BK110:=Aside0.mk (blk_drew BK110.out);replace HB:=Aside0.mk (below_drew1 HB.out);(refine start_ (n:=5) (S:=fun w'=>w'.cell? ⟨gb110,0,none⟩=some (.slice A0_0 l0_0.length c0_0)∧w'.cell? ⟨gb110,1,none⟩=some (.slice A0_1 l0_1.length c0_1)) (ds:=[]) #[F,F,F,F,F] (by kernel_rfl) rfl rfl (b3 BK110) (fun hHeld=>?_));generalize w7.drew=w8 at BK110 HB hHeld ⊢;(refine pure_ (i:=1) (N:=some 9) (v:=?_) (a':=?_) #[F,T,F,F,F] rfl rfl (by kernel_rfl) (fun _ _ _ h=>h) (Or.inl ⟨by rfl,?_⟩) ?_ ?_);rotate_left
   · intro w';go_simp;(with_reducible rfl)
   rotate_left
   · simp only [Act.put,lB,lZ,lS,i64_w,i32_w];rfl
   (refine take_ (i:=0) (N:=some 8) (v:=?_) (a':=?_) #[T,T,F,F,F] rfl rfl (by kernel_rfl) (fun _ _ _ h=>h) (Or.inl ⟨by rfl,?_⟩) hHeld ?_ ?_);rotate_left
   · rintro w' ⟨s0,s1⟩;go_simp;(with_reducible rfl)
   rotate_left
   · simp only [Act.put,lB,lZ,lS,i64_w,i32_w];rfl
   (refine one_ (i:=2) (N:=some 10) #[T,T,T,F,F] rfl rfl (by kernel_rfl) (by decide) (fun K hK=>?_));(refine gO Try.func38 #[.int .i64 a1] ?_);(with_reducible refine (spec_AreaFirst.calls a1 t112 _ A5.out).mono ?_);rintro e w' ⟨rfl,⟨nd,rfl⟩⟩;refine⟨_,rfl,?_⟩;(refine hK.out _ _ (b3 BK110) (fun hHeld=>?_));clear hK K;refine nT ?_;(refine one_ (i:=3) (N:=some 11) #[T,T,T,T,F] rfl rfl (by kernel_rfl) (by decide) (fun K hK=>?_));(refine gO Try.func67 #[.agg #[.slice A0_0 l0_0.length c0_0, .slice A0_1 l0_1.length c0_1], .int .i64 t112] ?_);(with_reducible refine (spec_l04Byte.calls k _ _ l0_0 _ _ l0_1 t112 t113 _ ?side1 HC0_0.out ?side3 HC0_1.out A6.out).mono ?_);(case side1=>repeat (first|exact (Kd.C_below HR0_0.out bB)|(with_reducible refine Kd.C_alloc ?_ _)|(with_reducible refine Kd.C_drewN ?_ _)|(with_reducible refine Kd.C_drew ?_)));(case side3=>repeat (first|exact (Kd.C_below HR0_1.out bB)|(with_reducible refine Kd.C_alloc ?_ _)|(with_reducible refine Kd.C_drewN ?_ _)|(with_reducible refine Kd.C_drew ?_)));rintro e w9 ⟨rfl,hb⟩;refine⟨_,rfl,?_⟩;replace BK110:=kB BK110 hb;replace HB:=bS hb;(try clear hb);(try clear hb2);(try clear hk);(try clear hi);(refine hK.out _ _ (b3 BK110) (fun hHeld=>?_));clear hK K;refine nT ?_;(refine pure_ (i:=4) (N:=some 4) (v:=?_) (a':=?_) #[T,T,T,T,T] rfl rfl (by kernel_rfl) (fun _ _ _ h=>h) (Or.inl ⟨by rfl,?_⟩) ?_ ?_);rotate_left
   · intro w';go_simp;(with_reducible rfl)
   rotate_left
   · simp only [Act.put,lB,lZ,lS,i64_w,i32_w];rfl
   (refine done_ (by kernel_rfl) ?_);(try go_wp2);go_ret;exact⟨eF,bB⟩
  replace c4:=Bool.eq_false_iff.mpr c4;subst c4;rw [if_neg (show ¬ (false=true) by decide)] at H;(try dsimp only at H);obtain rfl:=Option.some.inj H;go_enter Try.func36,Try.ntmps36;(go_wp2_with (first|((with_reducible refine gD 2 ?_);refine bE (N:=2) (cs:=#[.slice A0_0 l0_0.length c0_0, .slice A0_1 l0_1.length c0_1]) (t:=30) ?_;intro gb110 hg w10 hbox hb;have BK110:=Aside0.mk (hbox);have GW110:=gW hg;have GE110:=GW110;replace HB:=bS hb;clear hb hbox hg)|((with_reducible refine gC 64 ?_);refine gL (some 6) Try.func64 #[.int .i64 a1, .int .i64 0, .int .i64 1] ?_;(with_reducible refine (spec_l01In.calls a1 0 1 false _ A3.out).mono ?_);rintro e w' ⟨rfl,⟨nd,rfl⟩⟩;refine⟨_,rfl,?_⟩)));go_ret;exact⟨eF,bB⟩

mutual
def spec_SectorText.l0:Nat→Int→Int→ByteArray→Int→List ByteArray→List (S78)→Option (ByteArray×Bool)
  | 0,_,_,_,_,_,_=>none
  | k+1,x1,x2,x8,x9,x115000,x115001=>if x9 < x2 then (if x1 < 0 then (spec_SectorText.j1 k x1 x2 x8 x9 true x115000 x115001) else (spec_SectorText.j1 k x1 x2 x8 x9 (decide (x1 > (x115000.length:Int))) x115000 x115001)) else (some (x8,true))
def spec_SectorText.j1:Nat→Int→Int→ByteArray→Int→Bool→List ByteArray→List (S78)→Option (ByteArray×Bool)
  | 0,_,_,_,_,_,_,_=>none
  | k+1,x1,x2,x8,x9,x28,x115000,x115001=>if x28=true then (some ((⟨#[]⟩:ByteArray),false)) else ((spec_ReadSector.f k x115000 x115001 (wrap64 (x1+x9))).bind fun bt116=>(if bt116.2=true then (if x8.size+bt116.1.size≤9223372036854775807 then (spec_SectorText.l0 k x1 x2 (x8++bt116.1) (wrap64 (x9+1)) x115000 x115001) else (none)) else (some ((⟨#[]⟩:ByteArray),false))))
end
def spec_SectorText.f (k:Nat) (l0_0:List ByteArray) (l0_1:List (S78)) (a1:Int) (a2:Int):Option (ByteArray×Bool):=(spec_l01In.f a2 0 100).bind fun t115=>(if t115=true then (spec_SectorText.l0 k a1 a2 (⟨#[]⟩:ByteArray) 0 l0_0 l0_1) else (some ((⟨#[]⟩:ByteArray),false)))
theorem spec_SectorText.mono_l:∀ k,(∀ y0 y1 y2 y3 y4 y5,LeO (spec_SectorText.l0 k y0 y1 y2 y3 y4 y5) (spec_SectorText.l0 (k+1) y0 y1 y2 y3 y4 y5))∧(∀ y0 y1 y2 y3 y4 y5 y6,LeO (spec_SectorText.j1 k y0 y1 y2 y3 y4 y5 y6) (spec_SectorText.j1 (k+1) y0 y1 y2 y3 y4 y5 y6))
  | 0=>⟨fun _ _ _ _ _ _ r h=>by simp [spec_SectorText.l0] at h,fun _ _ _ _ _ _ _ r h=>by simp [spec_SectorText.j1] at h⟩
  | k+1=>by
    obtain⟨ih0,ih1⟩:=spec_SectorText.mono_l k
    refine⟨?_,?_⟩
    · intro y0 y1 y2 y3 y4 y5
      unfold spec_SectorText.l0
      repeat' (with_reducible first|apply ih0|apply ih1|apply spec_ReadSector.mono|exact LeO.refl _|exact LeO.none _|refine LeO.ite ?_ ?_|refine LeO.bind ?_ (fun _=>?_))
    · intro y0 y1 y2 y3 y4 y5 y6
      unfold spec_SectorText.j1
      repeat' (with_reducible first|apply ih0|apply ih1|apply spec_ReadSector.mono|exact LeO.refl _|exact LeO.none _|refine LeO.ite ?_ ?_|refine LeO.bind ?_ (fun _=>?_))
theorem spec_SectorText.mono:∀ a0 a1 a2 a3 k,LeO (spec_SectorText.f k a0 a1 a2 a3) (spec_SectorText.f (k+1) a0 a1 a2 a3):=by
  intro a0 a1 a2 a3 k;obtain⟨ih0,ih1⟩:=spec_SectorText.mono_l k;unfold spec_SectorText.f;(repeat' (with_reducible first|apply ih0|apply ih1|apply spec_ReadSector.mono|exact LeO.refl _|exact LeO.none _|refine LeO.ite ?_ ?_|refine LeO.bind ?_ (fun _=>?_)))
set_option maxHeartbeats 8000000 in
set_option maxRecDepth 100000 in
theorem spec_SectorText.calls (k:Nat) (A0_0:Option Addr) (c0_0:Nat) (l0_0:List ByteArray) (A0_1:Option Addr) (c0_1:Nat) (l0_1:List (S78)) (a1:Int) (a2:Int) (r1:ByteArray) (r2:Bool) (w:World) (hr0_0:Kd.C Kd.string w A0_0 l0_0.length l0_0) (hc0_0:l0_0.length≤c0_0) (hr0_1:Kd.C k78 w A0_1 l0_1.length l0_1) (hc0_1:l0_1.length≤c0_1) (h:spec_SectorText.f k l0_0 l0_1 a1 a2=some (r1,r2)) :
    Calls Try.prog 65 #[.agg #[.slice A0_0 l0_0.length c0_0, .slice A0_1 l0_1.length c0_1], .int .i64 a1, .int .i64 a2] w fun e w'=>e=.returned (.tuple #[.string r1, .bool r2])∧Below w.heap.size w w':=by
  have hu30:=Try.underlying30;have HR0_0:=Aside0.mk hr0_0;have HC0_0:=Aside0.mk hc0_0;clear hr0_0 hc0_0;have HR0_1:=Aside0.mk hr0_1;have HC0_1:=Aside0.mk hc0_1;clear hr0_1 hc0_1;have HB:=Aside0.mk (Below.refl w.heap.size w);have H:=h;clear h;unfold spec_SectorText.f at H;replace H:=oB H;obtain⟨t115,A40,H⟩:=H;(try dsimp only at H);have A4:=Aside0.mk A40;clear A40;by_cases c5:t115=true
  ·
   subst c5;rw [if_pos rfl] at H;(try dsimp only at H);have H':=Aside0.mk H;clear H;go_enter Try.func65,Try.ntmps65;(go_wp2_with (first|((with_reducible refine gD 3 ?_);(try (refine gate_guard (by rfl) ?_;dsimp only));refine bE (N:=3) (cs:=#[.slice A0_0 l0_0.length c0_0, .slice A0_1 l0_1.length c0_1]) (t:=30) ?_;intro gb114 hg w6 hbox hb;have BK114:=Aside0.mk (hbox);have GW114:=gW hg;have GE114:=GW114;replace HB:=bS hb;clear hb hbox hg)|((with_reducible refine gC 64 ?_);refine gL (some 13) Try.func64 #[.int .i64 a2, .int .i64 0, .int .i64 100] ?_;(with_reducible refine (spec_l01In.calls a2 0 100 true _ A4.out).mono ?_);rintro e w' ⟨rfl,⟨nd,rfl⟩⟩;refine⟨_,rfl,?_⟩)));(go_loopg [8,9] k (fun kq v8 v9 w' => ∃ (x8_1:ByteArray) (x9_1:Int),v8=.string x8_1∧v9=.int .i64 x9_1∧Aside0 (spec_SectorText.l0 kq a1 a2 x8_1 x9_1 l0_0 l0_1=some (r1,r2))∧Aside0 (kq≤k)∧Aside0 (w'.heap[gb114]?=some (.cells #[(.slice A0_0 l0_0.length c0_0),(.slice A0_1 l0_1.length c0_1)] 30 (0,0)))∧Aside0 (Below w.heap.size w w')));(case atStart=>exact⟨((⟨#[]⟩:ByteArray)),(0),rS,rS,H',⟨Nat.le_refl _⟩,⟨bk BK114.out⟩,⟨bB⟩⟩)
   case round =>
    clear H';(try clear p2);(try clear c5);(try clear c6);obtain⟨x8_1,x9_1,rfl,rfl,HA,HK1,BK114,HB⟩:=hrel
    cases gk with
    | zero=>exact absurd HA.out (by simp [spec_SectorText.l0])
    | succ k1 =>
     have H:=HA.out;clear HA;simp only [spec_SectorText.l0] at H;by_cases c7:x9_1 < a2
     ·
      rw [if_pos c7] at H;have c7b0:decide (x9_1 < a2)=true:=decide_eq_true c7;clear c7;have HC8:=Aside0.mk H;clear H;go_upto_region 7 with (fail);(go_cut [28] (fun v28 wc => ∃ (kq:Nat) (x28_7:Bool),v28=.bool x28_7∧Aside0 (spec_SectorText.j1 kq a1 a2 x8_1 x9_1 x28_7 l0_0 l0_1=some (r1,r2))∧Aside0 (kq≤k1)∧Aside0 (wc.heap[gb114]?=some (.cells #[(.slice A0_0 l0_0.length c0_0),(.slice A0_1 l0_1.length c0_1)] 30 (0,0)))∧Aside0 (Below w.heap.size w wc)))
      case first =>
       have H:=HC8.out;clear HC8;by_cases c9:a1 < 0
       · rw [if_pos c9] at H;have c9b0:decide (a1 < 0)=true:=decide_eq_true c9;clear c9;(first|rw [c9b0]|(simp only [i64_w,i32_w];rw [c9b0])|skip);have H':=Aside0.mk H;clear H;go_wp2;go_meet;(case rel=>exact⟨_,(true),rS,H',⟨by have:=HK1.out;first|omega|exact Nat.le_refl _⟩,⟨bk BK114.out⟩,⟨bB⟩⟩)
       rw [if_neg c9] at H;have c9b0:decide (a1 < 0)=false:=decide_eq_false c9;clear c9;(first|rw [c9b0]|(simp only [i64_w,i32_w];rw [c9b0])|skip);have H':=Aside0.mk H;clear H;obtain⟨hcz10_0,hcz10_1,hfz10_0,hfz10_1⟩:=b2 BK114;go_wp2;go_meet;(case rel=>exact⟨_,(decide (a1 > (l0_0.length:Int))),rS,H',⟨by have:=HK1.out;first|omega|exact Nat.le_refl _⟩,⟨bk BK114.out⟩,⟨bB⟩⟩)
      case rest =>
       clear HC8;(try clear p2);(try clear c5);(try clear c6);(try clear c7);(try clear c7b0);(try clear c9);(try clear c9b0);(try clear hcz10_0);(try clear hcz10_1);(try clear hfz10_0);(try clear hfz10_1);(try clear p2);obtain⟨kq,x28_7,rfl,HA,HJ7,BK114,HB⟩:=hcut
       cases kq with
       | zero=>exact absurd HA.out (by simp [spec_SectorText.j1])
       | succ kj7 =>
        have H:=HA.out;clear HA;simp only [spec_SectorText.j1] at H;by_cases c11:x28_7=true
        · subst c11;rw [if_pos rfl] at H;(try dsimp only at H);simp only [oI,pI] at H;obtain⟨rfl,rfl⟩:=H;go_wp2;go_ret2;exact⟨eF,bB⟩
        replace c11:=Bool.eq_false_iff.mpr c11;subst c11;rw [if_neg (show ¬ (false=true) by decide)] at H;(try dsimp only at H);replace H:=oB H;obtain⟨⟨t116,t117⟩,A120,H⟩:=H;(try dsimp only at H);have A12:=Aside0.mk A120;clear A120;by_cases c13:t117=true
        ·
         subst c13;rw [if_pos rfl] at H;(try dsimp only at H);by_cases c14:x8_1.size+t116.size≤9223372036854775807
         · rw [if_pos c14] at H;have c14b0:=eq_true c14;have c14b1:decide (x8_1.size+t116.size≤9223372036854775807)=true:=decide_eq_true c14;(try have c14b2:(9223372036854775807 < x8_1.size+t116.size)=False:=eq_false (Nat.not_lt.2 c14));have H':=Aside0.mk H;clear H;obtain⟨hcz15_0,hcz15_1,hfz15_0,hfz15_1⟩:=b2 BK114;(go_wp2_with (first|((with_reducible refine gC 93 ?_);refine gL (some 34) Try.func93 #[.agg #[.slice A0_0 l0_0.length c0_0, .slice A0_1 l0_1.length c0_1], .int .i64 (wrap64 (a1+x9_1))] ?_;(with_reducible refine (spec_ReadSector.calls kj7 _ _ l0_0 _ _ l0_1 (wrap64 (a1+x9_1)) t116 true _ ?side1 HC0_0.out ?side3 HC0_1.out A12.out).mono ?_);(case side1=>exact cB HR0_0);(case side3=>exact cB HR0_1);rintro e w16 ⟨rfl,hb⟩;refine⟨_,rfl,?_⟩;replace BK114:=kB BK114 hb;replace HB:=bS hb;(try clear hb))));go_roundg kj7;(case measure=>have:=HK1.out;have:=HJ7.out;omega);(case rel=>exact⟨(x8_1++t116),(wrap64 (x9_1+1)),rS,rS,H',⟨by have:=HK1.out;have:=HJ7.out;omega⟩,⟨bk BK114.out⟩,⟨bB⟩⟩)
         rw [if_neg c14] at H;(exact absurd H (by simp))
        replace c13:=Bool.eq_false_iff.mpr c13;subst c13;rw [if_neg (show ¬ (false=true) by decide)] at H;(try dsimp only at H);simp only [oI,pI] at H;obtain⟨rfl,rfl⟩:=H;obtain⟨hcz17_0,hcz17_1,hfz17_0,hfz17_1⟩:=b2 BK114;(go_wp2_with (first|((with_reducible refine gC 93 ?_);refine gL (some 34) Try.func93 #[.agg #[.slice A0_0 l0_0.length c0_0, .slice A0_1 l0_1.length c0_1], .int .i64 (wrap64 (a1+x9_1))] ?_;(with_reducible refine (spec_ReadSector.calls kj7 _ _ l0_0 _ _ l0_1 (wrap64 (a1+x9_1)) t116 false _ ?side1 HC0_0.out ?side3 HC0_1.out A12.out).mono ?_);(case side1=>exact cB HR0_0);(case side3=>exact cB HR0_1);rintro e w18 ⟨rfl,hb⟩;refine⟨_,rfl,?_⟩;replace BK114:=kB BK114 hb;replace HB:=bS hb;(try clear hb))));go_ret2;exact⟨eF,bB⟩
     rw [if_neg c7] at H;have c7b0:decide (x9_1 < a2)=false:=decide_eq_false c7;clear c7;simp only [oI,pI] at H;obtain⟨rfl,rfl⟩:=H;go_wp2;go_ret2;exact⟨eF,bB⟩
  replace c5:=Bool.eq_false_iff.mpr c5;subst c5;rw [if_neg (show ¬ (false=true) by decide)] at H;(try dsimp only at H);simp only [oI,pI] at H;obtain⟨rfl,rfl⟩:=H;go_enter Try.func65,Try.ntmps65;(go_wp2_with (first|((with_reducible refine gD 3 ?_);(try (refine gate_guard (by rfl) ?_;dsimp only));refine bE (N:=3) (cs:=#[.slice A0_0 l0_0.length c0_0, .slice A0_1 l0_1.length c0_1]) (t:=30) ?_;intro gb114 hg w19 hbox hb;have BK114:=Aside0.mk (hbox);have GW114:=gW hg;have GE114:=GW114;replace HB:=bS hb;clear hb hbox hg)|((with_reducible refine gC 64 ?_);refine gL (some 13) Try.func64 #[.int .i64 a2, .int .i64 0, .int .i64 100] ?_;(with_reducible refine (spec_l01In.calls a2 0 100 false _ A4.out).mono ?_);rintro e w' ⟨rfl,⟨nd,rfl⟩⟩;refine⟨_,rfl,?_⟩)));go_ret2;exact⟨eF,bB⟩

def spec_l01Var.l0:Nat→Int→List Int→Option (ByteArray)
  | 0,_,_=>none
  | k+1,x0,x3=>if x0 > 127 then (if x3.length < 140737488355328 then (spec_l01Var.l0 k (wrap64 (Int.tdiv x0 128)) (x3 ++ [(wrap64 ((Int.tmod x0 128)+128)) % 256])) else (none)) else (if x3.length < 140737488355328 then (some (strOfNums (x3 ++ [(x0) % 256]))) else (none))
def spec_l01Var.f (k:Nat) (a0:Int):Option (ByteArray):=spec_l01Var.l0 k a0 (([]:List Int))
theorem spec_l01Var.mono_l:∀ k,(∀ y0 y1,LeO (spec_l01Var.l0 k y0 y1) (spec_l01Var.l0 (k+1) y0 y1))
  | 0=>fun _ _ r h=>by simp [spec_l01Var.l0] at h
  | k+1=>by
    have ih0:=spec_l01Var.mono_l k
    · intro y0 y1
      unfold spec_l01Var.l0
      repeat' (with_reducible first|apply ih0|exact LeO.refl _|exact LeO.none _|refine LeO.ite ?_ ?_|refine LeO.bind ?_ (fun _=>?_))
theorem spec_l01Var.mono:∀ a0 k,LeO (spec_l01Var.f k a0) (spec_l01Var.f (k+1) a0):=by
  intro a0 k;have ih0:=spec_l01Var.mono_l k;unfold spec_l01Var.f;(repeat' (with_reducible first|apply ih0|exact LeO.refl _|exact LeO.none _|refine LeO.ite ?_ ?_|refine LeO.bind ?_ (fun _=>?_)))
set_option maxHeartbeats 8000000 in
set_option maxRecDepth 100000 in
theorem spec_l01Var.calls (k:Nat) (a0:Int) (r:ByteArray) (w:World) (h:spec_l01Var.f k a0=some r) :
    Calls Try.prog 104 #[.int .i64 a0] w fun e w'=>e=.returned (.string r)∧Below w.heap.size w w':=by
  have HB:=Aside0.mk (Below.refl w.heap.size w);have H:(spec_l01Var.l0 k a0 (([]:List Int)))=some r:=h;clear h;obtain⟨y118,hy118⟩:∃ y_:List Int,y_=(([]:List Int)):=⟨_,rfl⟩;(replace H:(spec_l01Var.l0 k a0 y118)=some r:=by first|(rw [hy118];with_reducible exact H)|(have H2_:=(Option.bind_some _ _).symm.trans H;rw [hy118];with_reducible exact H2_)|(have H2_:=(Option.bind_some _ _).symm.trans H;with_reducible exact H2_)|with_reducible exact H|(rw [hy118];exact H)|exact H);have Ny118:=Aside0.mk hy118;clear hy118;have H':=Aside0.mk H;clear H;go_enter Try.func104,Try.ntmps104;(go_wp2_with (first|((with_reducible refine gD 4 ?_);refine Kd.R_lit (Kd.int .u8) _ 5 ?hg (N:=4) ?hd (xs:=([]:List Int)) (inner:=[]) (ok:=fun _=>True) (okp:=fun _=>True) ?hr ?hp (fun _ hk=>hk) trivial (Below.refl _ _) (Nat.le_refl _) (by simp) ?_;(case hd=>rfl);(case hg=>rfl);(case hr=>first|(go_simp;done)|(go_simp;rfl));(case hp=>exact (Reps.none _ _));intro v119 w2 ho3 hb hg_ hnew_;clear hg_ hnew_;(first|rw [← Ny118.out] at ho3|(simp only [Int.reduceToNat] at ho3;rw [← Ny118.out] at ho3));have HO120:=rL ho3;replace HB:=bS hb;clear hb ho3)));(go_loopg [0,3] k (fun kq v0 v3 w' => ∃ (x0_1:Int) (x3_1:List Int),v0=.int .i64 x0_1∧Aside0 (spec_l01Var.l0 kq x0_1 x3_1=some r)∧Aside0 (kq≤k)∧Aside0 (Kd.R (Kd.int .u8) 5 w' w.heap.size (fun _=>True) v3 x3_1)∧Aside0 (Below w.heap.size w w')));(case atStart=>exact⟨(a0),(y118),rS,H',⟨Nat.le_refl _⟩,⟨rk HO120.out⟩,⟨bB⟩⟩)
  case round =>
   clear H';(try clear c1);(try clear p2);obtain⟨x0_1,x3_1,rfl,HA,HK1,HO_3,HB⟩:=hrel
   cases gk with
   | zero=>exact absurd HA.out (by simp [spec_l01Var.l0])
   | succ k1 =>
    have H:=HA.out;clear HA;simp only [spec_l01Var.l0] at H;by_cases c4:x0_1 > 127
    ·
     rw [if_pos c4] at H;have c4b0:decide (127 < x0_1)=true:=decide_eq_true c4;clear c4;by_cases c5:x3_1.length < 140737488355328
     · rw [if_pos c5] at H;have LMc5:=Aside0.mk c5;clear c5;obtain⟨y121,hy121⟩:∃ y_:List Int,y_=(x3_1 ++ [(wrap64 ((Int.tmod x0_1 128)+128)) % 256]):=⟨_,rfl⟩;(replace H:(spec_l01Var.l0 k1 (wrap64 (Int.tdiv x0_1 128)) y121)=some r:=by first|(rw [hy121];with_reducible exact H)|(have H2_:=(Option.bind_some _ _).symm.trans H;rw [hy121];with_reducible exact H2_)|(have H2_:=(Option.bind_some _ _).symm.trans H;with_reducible exact H2_)|with_reducible exact H|(rw [hy121];exact H)|exact H);have Ny121:=Aside0.mk hy121;clear hy121;have H':=Aside0.mk H;clear H;(go_wp2_with (first|((with_reducible refine gate_builtin (b := .append) (xs:=#[.tmp 7, .tmp 12]) rfl ?_);at_builtin;refine Kd.R_append (Kd.int .u8) (w0:=w) w.heap.size rfl (.tmp 7) (.tmp 12) 39 5 (.int .u8 0) 1 rfl Try.underlying39 info5 rfl (by decide) (by omega) u3 x3_1 ((wrap64 ((Int.tmod x0_1 128)+128)) % 256) [.int .u8 ((wrap64 ((Int.tmod x0_1 128)+128)) % 256)] (fun _=>True) (fun _=>False) rfl rfl ?aP (fun _ hk=>hk.elim) ?aF ?aO ?aB ?aS ?aL ?_;(case aP=>exact rfl);(case aB=>exact bB);(case aF=>exact (fun _ _=>trivial));(case aO=>exact (rk HO_3.out));(case aS=>exact (below_size bB));(case aL=>have:=LMc5.out;omega);intro v122 w6 ho hb hg hat;rw [← Ny121.out] at ho;have HO123:=Aside0.mk (ho);replace HB:=Aside0.mk (hb);clear HO_3 ho hb hg hat)));go_roundg k1;(case measure=>have:=HK1.out;omega);(case rel=>exact⟨(wrap64 (Int.tdiv x0_1 128)),(y121),rS,H',⟨by have:=HK1.out;omega⟩,⟨rk HO123.out⟩,⟨bB⟩⟩)
     rw [if_neg c5] at H;(exact absurd H (by simp))
    rw [if_neg c4] at H;have c4b0:decide (127 < x0_1)=false:=decide_eq_false c4;clear c4;by_cases c7:x3_1.length < 140737488355328
    · rw [if_pos c7] at H;have LMc7:=Aside0.mk c7;clear c7;obtain⟨y124,hy124⟩:∃ y_:List Int,y_=(x3_1 ++ [(x0_1) % 256]):=⟨_,rfl⟩;(replace H:(some (strOfNums y124))=some r:=by first|(rw [hy124];with_reducible exact H)|(have H2_:=(Option.bind_some _ _).symm.trans H;rw [hy124];with_reducible exact H2_)|(have H2_:=(Option.bind_some _ _).symm.trans H;with_reducible exact H2_)|with_reducible exact H|(rw [hy124];exact H)|exact H);have Ny124:=Aside0.mk hy124;clear hy124;obtain rfl:=Option.some.inj H;(go_wp2_with (first|((with_reducible refine gate_builtin (b := .append) (xs:=#[.tmp 16, .tmp 19]) rfl ?_);at_builtin;refine Kd.R_append (Kd.int .u8) (w0:=w) w.heap.size rfl (.tmp 16) (.tmp 19) 39 5 (.int .u8 0) 1 rfl Try.underlying39 info5 rfl (by decide) (by omega) u3 x3_1 ((x0_1) % 256) [.int .u8 ((x0_1) % 256)] (fun _=>True) (fun _=>False) rfl rfl ?aP (fun _ hk=>hk.elim) ?aF ?aO ?aB ?aS ?aL ?_;(case aP=>exact rfl);(case aB=>exact bB);(case aF=>exact (fun _ _=>trivial));(case aO=>exact (rk HO_3.out));(case aS=>exact (below_size bB));(case aL=>have:=LMc7.out;omega);intro v125 w8 ho hb hg hat;rw [← Ny124.out] at ho;have HO126:=Aside0.mk (ho);replace HB:=Aside0.mk (hb);clear HO_3 ho hb hg hat;have hcv9:=own_string (P:=Try.prog) Try.underlying39 Try.underlying5 Try.underlying9 (Kd.own_of_R HO126.out))));go_ret;exact⟨eF,bB⟩
    rw [if_neg c7] at H;(exact absurd H (by simp))

end Go.Proofs.Ytjnghaajmdaggaa.QFnSwitches
