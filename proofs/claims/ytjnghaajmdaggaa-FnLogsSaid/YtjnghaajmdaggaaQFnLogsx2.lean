/- Sq: Go functions as Lean functions, and that the code comes to what they say: written by this session's program. Conditions: as each theorem states. -/
import Derived.Test.YtjnghaajmdaggaaQFnLogsx0
namespace Go.Proofs.Ytjnghaajmdaggaa.QFnLogs
open Go.RowKit Go.Proofs.YtjnghaajmdaggaaW.PrintWords Go.Proofs.YtjnghaajmdaggaaW.PrintLast Go.Proofs.YtjnghaajmdaggaaW.PrintMore Go.Proofs.YtjnghaajmdaggaaW.Sh
attribute [local go_sem] max2_int min2_int max_two min_two max_three min_three max_four min_four
set_option linter.unusedVariables false
set_option linter.unusedSimpArgs false

def laws_big.f (l0:List Int):Option (Bool):=some (decide ((l0.length:Int) > 1048576))
set_option maxHeartbeats 8000000 in
set_option maxRecDepth 100000 in
theorem laws_big.calls (A0:Option Addr) (c0:Nat) (l0:List Int) (r:Bool) (w:World) (hr0:Kd.C (Kd.int .u8) w A0 l0.length l0) (hc0:l0.length≤c0) (h:laws_big.f l0=some r) :
    Calls Try.prog 18 #[.slice A0 l0.length c0] w fun e w'=>e=.returned (.bool r)∧Drawn0 w w':=by
  have HR0:=Aside0.mk hr0;have HC0:=Aside0.mk hc0;clear hr0 hc0;have H:(some (decide ((l0.length:Int) > 1048576)))=some r:=h;clear h;obtain rfl:=Option.some.inj H;go_enter Try.func18,Try.ntmps18;go_wp2;go_ret;(exact⟨by first|rfl|(simp;done)|(simp [*];done),by repeat (first|exact Drawn0.refl _|apply Drawn0.step)⟩)

/-- A state of type 90 at block g of W; what its slices lead to came in by w0. -/
def IsS90 (w0 W:World) (g:Nat) (f0:List Int) (f1:Int) (f2:Int):Prop := ∃ A0 c0,W.heap[g]?=some (.cells #[.slice A0 f0.length c0, .int .i64 f1, .int .i64 f2] 90 (0,0))∧w0.heap.size≤g∧Kd.C (Kd.int .u8) w0 A0 f0.length f0
theorem IsS90.grown {w0 W:World} {g:Nat} {f0:List Int} {f1:Int} {f2:Int} {W1:World} {row:Option Nat} (h:IsS90 w0 W g f0 f1 f2) (hw:W.grownBy W1 row) (hne:some g≠row):IsS90 w0 W1 g f0 f1 f2:=by
  obtain⟨A0,c0,hb,hg,hr0⟩:=h;exact⟨A0,c0,blk_grown hb hw hne,hg,hr0⟩
theorem IsS90.own_neN {w0 W:World} {g:Nat} {f0:List Int} {f1:Int} {f2:Int} {α:Type} {d:Kd α} {e:Nat} {base:Nat} {ok:Nat→Prop} {v:Value} {xs:List α} (h:IsS90 w0 W g f0 f1 f2) (ho:Kd.N d e W base ok v xs) (ht:e≠90):some g≠v.ownBlock:=by
  obtain⟨A0,c0,hb,hg,hr0⟩:=h;exact Kd.N_ne ho hb ht
theorem IsS90.fresh {w0 W:World} {g:Nat} {f0:List Int} {f1:Int} {f2:Int} (h:IsS90 w0 W g f0 f1 f2):∀ k,W.heap.size≤k→k≠g:=by
  obtain⟨A0,c0,hb,hg,hr0⟩:=h;exact Kd.freshB hb
theorem IsS90.kept {w0 W:World} {g:Nat} {f0:List Int} {f1:Int} {f2:Int} {W1:World} {S:Nat→Prop} (h:IsS90 w0 W g f0 f1 f2) (hk:Kept W W1 S) (hne:¬ S g):IsS90 w0 W1 g f0 f1 f2:=by
  obtain⟨A0,c0,hb,hg,hr0⟩:=h;exact⟨A0,c0,blk_kept hb hk hne,hg,hr0⟩
theorem IsS90.below {w0 W:World} {g:Nat} {f0:List Int} {f1:Int} {f2:Int} {W1:World} (h:IsS90 w0 W g f0 f1 f2) (hw:Below W.heap.size W W1):IsS90 w0 W1 g f0 f1 f2:=h.grown (grown_of_below hw none) (by simp)
theorem IsS90.alloc {w0 W:World} {g:Nat} {f0:List Int} {f1:Int} {f2:Int} (h:IsS90 w0 W g f0 f1 f2) (o:Obj):IsS90 w0 (W.alloc o) g f0 f1 f2:=h.below (below_alloc (Below.refl _ _) o)
theorem IsS90.drewN {w0 W:World} {g:Nat} {f0:List Int} {f1:Int} {f2:Int} (h:IsS90 w0 W g f0 f1 f2) (m:Nat):IsS90 w0 (W.drewN m) g f0 f1 f2:=h
theorem IsS90.drew {w0 W:World} {g:Nat} {f0:List Int} {f1:Int} {f2:Int} (h:IsS90 w0 W g f0 f1 f2):IsS90 w0 W.drew g f0 f1 f2:=h
theorem IsS90.at_ {w0 W:World} {g:Nat} {f0:List Int} {f1:Int} {f2:Int} {w':World} {m:Nat} (hq:W.drewN m=w') (h:IsS90 w0 W g f0 f1 f2):IsS90 w0 w' g f0 f1 f2:=by subst hq;exact IsS90.drewN h m
theorem IsS90.apart {w0 W:World} {g:Nat} {f0:List Int} {f1:Int} {f2:Int} {α:Type} {d:Kd α} {e:Nat} {base:Nat} {ok:Nat→Prop} {v:Value} {xs:List α} (h:IsS90 w0 W g f0 f1 f2) (ho:d.R e W base ok v xs) (ht:∀ q,q ∈ e :: d.E→q≠90):d.R e W base (fun k=>ok k∧k≠g) v xs:=by
  obtain⟨A0,c0,hb,hg,hr0⟩:=h;exact Kd.R_types ho hb ht
theorem IsS90.own_ne {w0 W:World} {g:Nat} {f0:List Int} {f1:Int} {f2:Int} {α:Type} {d:Kd α} {e:Nat} {base:Nat} {ok:Nat→Prop} {v:Value} {xs:List α} (h:IsS90 w0 W g f0 f1 f2) (ho:d.R e W base ok v xs) (ht:e≠90):some g≠v.ownBlock:=by
  obtain⟨A0,c0,hb,hg,hr0⟩:=h;exact Kd.R_ne ho hb ht
theorem IsS90.apartQ {w0 W:World} {g:Nat} {f0:List Int} {f1:Int} {f2:Int} {α:Type} {d:Kd α} {e:Nat} {base:Nat} {ok:Nat→Prop} {v:Value} {xs:List α} (h:IsS90 w0 W g f0 f1 f2) (ho:d.Q e W base ok v xs) (ht:∀ q,q ∈ e :: d.E→q≠90):d.Q e W base (fun k=>ok k∧k≠g) v xs:=by
  obtain⟨A0,c0,hb,hg,hr0⟩:=h;exact Kd.Q_types ho hb ht
theorem IsS90.own_neQ {w0 W:World} {g:Nat} {f0:List Int} {f1:Int} {f2:Int} {α:Type} {d:Kd α} {e:Nat} {base:Nat} {ok:Nat→Prop} {v:Value} {xs:List α} (h:IsS90 w0 W g f0 f1 f2) (ho:d.Q e W base ok v xs) (ht:e≠90):some g≠v.ownBlock:=by
  obtain⟨A0,c0,hb,hg,hr0⟩:=h;exact Kd.Q_ne ho hb ht
theorem IsS90.apartS {w0 W:World} {g:Nat} {f0:List Int} {f1:Int} {f2:Int} {α:Type} {d:Kd α} {e:Nat} {base:Nat} {ok:Nat→Prop} {v:Value} {xs:List α} (h:IsS90 w0 W g f0 f1 f2) (ho:d.S e W base ok v xs) (ht:∀ q,q ∈ e :: d.E→q≠90):d.S e W base (fun k=>ok k∧k≠g) v xs:=by
  obtain⟨A0,c0,hb,hg,hr0⟩:=h;exact Kd.S_types ho hb ht
theorem IsS90.own_neS {w0 W:World} {g:Nat} {f0:List Int} {f1:Int} {f2:Int} {α:Type} {d:Kd α} {e:Nat} {base:Nat} {ok:Nat→Prop} {v:Value} {xs:List α} (h:IsS90 w0 W g f0 f1 f2) (ho:d.S e W base ok v xs) (ht:e≠90):some g≠v.ownBlock:=by
  obtain⟨A0,c0,hb,hg,hr0⟩:=h;exact Kd.S_ne ho hb ht
theorem IsS90.lt {w0 W:World} {g:Nat} {f0:List Int} {f1:Int} {f2:Int} (h:IsS90 w0 W g f0 f1 f2):g < W.heap.size:=by
  obtain⟨A0,c0,hb,hg,hr0⟩:=h;exact blk_lt hb
theorem IsS90.ge {w0 W:World} {g:Nat} {f0:List Int} {f1:Int} {f2:Int} (h:IsS90 w0 W g f0 f1 f2):w0.heap.size≤g:=by
  obtain⟨A0,c0,hb,hg,hr0⟩:=h;exact hg
theorem IsS90.ne_blk {w0 W:World} {g:Nat} {f0:List Int} {f1:Int} {f2:Int} {a:Nat} {cs:Array Value} {t:TypeId} {fr:Nat×Nat} (h:IsS90 w0 W g f0 f1 f2) (hb2:W.heap[a]?=some (.cells cs t fr)) (ht:t≠90):g≠a:=by
  obtain⟨A0,c0,hb,hg,hr0⟩:=h;rintro rfl;rw [hb] at hb2;injection hb2 with hb2;injection hb2 with _ ht2;exact ht ht2.symm
theorem IsS90.far {w0 W:World} {g:Nat} {f0:List Int} {f1:Int} {f2:Int} {p:Addr} (h:IsS90 w0 W g f0 f1 f2) (hne:g≠p.block) (u:Value):IsS90 w0 (W.setCell p u) g f0 f1 f2:=by
  obtain⟨A0,c0,hb,hg,hr0⟩:=h;exact⟨A0,c0,blk_far hb hne u,hg,hr0⟩
theorem cellS90_0 {W:World} {g:Nat} {A0:Option Addr} {c0:Nat} {f0:List Int} {f1:Int} {f2:Int} (h:W.heap[g]?=some (.cells #[.slice A0 f0.length c0, .int .i64 f1, .int .i64 f2] 90 (0,0))):W.cell? ⟨g,0,none⟩=some (.slice A0 f0.length c0):=(blk_cell h 0).trans rfl
theorem cellS90_1 {W:World} {g:Nat} {A0:Option Addr} {c0:Nat} {f0:List Int} {f1:Int} {f2:Int} (h:W.heap[g]?=some (.cells #[.slice A0 f0.length c0, .int .i64 f1, .int .i64 f2] 90 (0,0))):W.cell? ⟨g,1,none⟩=some (.int .i64 f1):=(blk_cell h 1).trans rfl
theorem IsS90.set_1 {w0 W:World} {g:Nat} {f0:List Int} {f1:Int} {f2:Int} (h:IsS90 w0 W g f0 f1 f2) (x:Int):IsS90 w0 (W.setCell ⟨g,1,none⟩ (.int .i64 x)) g f0 x f2:=by
  obtain⟨A0,c0,hb,hg,hr0⟩:=h;(exact⟨A0,c0,by simpa using blk_set hb 1 (.int .i64 x),hg,hr0⟩)
theorem cellS90_2 {W:World} {g:Nat} {A0:Option Addr} {c0:Nat} {f0:List Int} {f1:Int} {f2:Int} (h:W.heap[g]?=some (.cells #[.slice A0 f0.length c0, .int .i64 f1, .int .i64 f2] 90 (0,0))):W.cell? ⟨g,2,none⟩=some (.int .i64 f2):=(blk_cell h 2).trans rfl
theorem IsS90.set_2 {w0 W:World} {g:Nat} {f0:List Int} {f1:Int} {f2:Int} (h:IsS90 w0 W g f0 f1 f2) (x:Int):IsS90 w0 (W.setCell ⟨g,2,none⟩ (.int .i64 x)) g f0 f1 x:=by
  obtain⟨A0,c0,hb,hg,hr0⟩:=h;(exact⟨A0,c0,by simpa using blk_set hb 2 (.int .i64 x),hg,hr0⟩)
theorem IsS90.new (w0 W:World) (A0:Option Addr) (c0:Nat) (f0:List Int) (f1:Int) (f2:Int) (hB:Below w0.heap.size w0 W) (hr0:Kd.C (Kd.int .u8) w0 A0 f0.length f0):IsS90 w0 (W.alloc (.cells #[.slice A0 f0.length c0, .int .i64 f1, .int .i64 f2] 90)) W.heap.size f0 f1 f2:=⟨A0,c0,by simpa using heap_alloc_new W _,hB.size,hr0⟩

def spec_l01New.l0:Nat→List Int→Int→Int→Option (List Int×Int×Int)
  | 0,_,_,_=>none
  | k+1,x0,x3,x4=>if x4 < (x0.length:Int) then (if x4 < 4000 then (if 0≤x4 then (spec_l01New.l0 k x0 (Go.bits .and .i64 (wrap64 ((wrap64 ((wrap64 (x3 * 131))+(wrap64 (rd x0 x4))))+7)) 1073741823) (wrap64 (x4+1))) else (none)) else (some (x0,0,x3))) else (some (x0,0,x3))
def spec_l01New.f (k:Nat) (l0:List Int):Option (List Int×Int×Int):=spec_l01New.l0 k l0 (wrap64 (77601+(l0.length:Int))) 0
theorem spec_l01New.mono_l:∀ k,(∀ y0 y1 y2,LeO (spec_l01New.l0 k y0 y1 y2) (spec_l01New.l0 (k+1) y0 y1 y2))
  | 0=>fun _ _ _ r h=>by simp [spec_l01New.l0] at h
  | k+1=>by
    have ih0:=spec_l01New.mono_l k
    · intro y0 y1 y2
      unfold spec_l01New.l0
      repeat' (with_reducible first|apply ih0|exact LeO.refl _|exact LeO.none _|refine LeO.ite ?_ ?_|refine LeO.bind ?_ (fun _=>?_))
theorem spec_l01New.mono:∀ a0 k,LeO (spec_l01New.f k a0) (spec_l01New.f (k+1) a0):=by
  intro a0 k;have ih0:=spec_l01New.mono_l k;unfold spec_l01New.f;(repeat' (with_reducible first|apply ih0|exact LeO.refl _|exact LeO.none _|refine LeO.ite ?_ ?_|refine LeO.bind ?_ (fun _=>?_)))
set_option maxHeartbeats 8000000 in
set_option maxRecDepth 100000 in
theorem spec_l01New.calls (k:Nat) (A0:Option Addr) (c0:Nat) (l0:List Int) (r1:List Int) (r2:Int) (r3:Int) (w0 w:World) (hB:Below w0.heap.size w0 w) (hr0:Kd.C (Kd.int .u8) w0 A0 l0.length l0) (hc0:l0.length≤c0) (h:spec_l01New.f k l0=some (r1,r2,r3)) :
    Calls Try.prog 56 #[.slice A0 l0.length c0] w fun e w' => ∃ g_:Nat,e=.returned (.pointer (some ⟨g_,0,none⟩))∧IsS90 w0 w' g_ r1 r2 r3∧Below w0.heap.size w0 w'∧Below w.heap.size w w':=by
  have hu90:=Try.underlying90;have HR0:=Aside0.mk hr0;have HC0:=Aside0.mk hc0;clear hr0 hc0;have HBW:=Aside0.mk (Below.refl w.heap.size w);have HW0:=Aside0.mk hB.size;have HB:=Aside0.mk hB;clear hB;have H:(spec_l01New.l0 k l0 (wrap64 (77601+(l0.length:Int))) 0)=some (r1,r2,r3):=h;clear h;have H':=Aside0.mk H;clear H;go_enter Try.func56,Try.ntmps56;go_wp2;(go_loopg [3,4] k (fun kq v3 v4 w' => ∃ (x3_1:Int) (x4_1:Int),v3=.int .i64 x3_1∧v4=.int .i64 x4_1∧Aside0 (spec_l01New.l0 kq l0 x3_1 x4_1=some (r1,r2,r3))∧Aside0 (kq≤k)∧Aside0 (Below w0.heap.size w0 w')∧Aside0 (Below w.heap.size w w')));(case atStart=>exact⟨(wrap64 (77601+(l0.length:Int))),(0),rS,rS,H',⟨Nat.le_refl _⟩,⟨bB⟩,⟨by repeat (first|(with_reducible first|exact HBW.out|apply below_alloc|apply pw_below_drewN|apply below_drew1)|exact HBW.out)⟩⟩)
  case round =>
   clear H';obtain⟨x3_1,x4_1,rfl,rfl,HA,HK1,HB,HBW⟩:=hrel
   cases gk with
   | zero=>exact absurd HA.out (by simp [spec_l01New.l0])
   | succ k1 =>
    have H:=HA.out;clear HA;simp only [spec_l01New.l0] at H;by_cases c2:x4_1 < (l0.length:Int)
    ·
     rw [if_pos c2] at H;have c2b0:decide (x4_1 < (l0.length:Int))=true:=decide_eq_true c2;clear c2;by_cases c3:x4_1 < 4000
     ·
      rw [if_pos c3] at H;have c3b0:decide (x4_1 < 4000)=true:=decide_eq_true c3;clear c3;by_cases c4:0≤x4_1
      · rw [if_pos c4] at H;have c4b0:decide (0≤x4_1)=true:=decide_eq_true c4;clear c4;have H':=Aside0.mk H;clear H;(have p101:0≤(x4_1:Int):=of_decide_eq_true (by first|(with_reducible assumption)|assumption));(have q101:x4_1 < (l0.length:Int):=of_decide_eq_true (by first|(with_reducible assumption)|assumption));obtain⟨ad101,e101,hx101_0⟩:=Kd.at_int HR0.out x4_1 p101 q101;cases e101;replace hx101_0:=pw_cell_below HB.out hx101_0;replace p101:=eq_true p101;replace q101:=eq_true q101;go_wp2;go_roundg k1;(case measure=>have:=HK1.out;omega);(case rel=>exact⟨(Go.bits .and .i64 (wrap64 ((wrap64 ((wrap64 (x3_1 * 131))+(wrap64 (rd l0 x4_1))))+7)) 1073741823),(wrap64 (x4_1+1)),rS,rS,H',⟨by have:=HK1.out;omega⟩,⟨bB⟩,⟨by repeat (first|(with_reducible first|exact HBW.out|apply below_alloc|apply pw_below_drewN|apply below_drew1)|exact HBW.out)⟩⟩)
      rw [if_neg c4] at H;(exact absurd H (by simp))
     rw [if_neg c3] at H;have c3b0:decide (x4_1 < 4000)=false:=decide_eq_false c3;clear c3;simp only [oI,pI] at H;obtain⟨rfl,rfl,rfl⟩:=H;(go_wp2_with (first|((with_reducible refine gD 31 ?_);refine bE (N:=31) (cs:=#[.slice A0 l0.length c0, .int .i64 0, .int .i64 x3_1]) (t:=90) ?_;intro gb102 hg w5 hbox hb;have BK102:=Aside0.mk (hbox);have GW102:=Aside0.mk ((by rw [hg];exact (below_size (by repeat (first|(with_reducible first|exact HBW.out|apply below_alloc|apply pw_below_drewN|apply below_drew1)|exact HBW.out))):w.heap.size≤gb102));have GE102:=Aside0.mk ((Nat.le_trans HW0.out (by rw [hg];exact (below_size (by repeat (first|(with_reducible first|exact HBW.out|apply below_alloc|apply pw_below_drewN|apply below_drew1)|exact HBW.out))):w.heap.size≤gb102):w0.heap.size≤gb102));replace HBW:=Aside0.mk (below_step HBW.out hb);replace HB:=bS hb;clear hb hbox hg)));go_ret;(exact⟨_,rfl,(show IsS90 w0 _ gb102 l0 0 x3_1 from ⟨_,_,by (with_reducible repeat (first|refine blk_drewN ?_ _|refine blk_drew ?_|refine blk_alloc ?_ _));exact BK102.out,GE102.out,HR0.out⟩),bB,by repeat (first|(with_reducible first|exact HBW.out|apply below_alloc|apply pw_below_drewN|apply below_drew1|refine below_set ?_ GW102.out)|exact HBW.out)⟩)
    rw [if_neg c2] at H;have c2b0:decide (x4_1 < (l0.length:Int))=false:=decide_eq_false c2;clear c2;simp only [oI,pI] at H;obtain⟨rfl,rfl,rfl⟩:=H;(go_wp2_with (first|((with_reducible refine gD 31 ?_);refine bE (N:=31) (cs:=#[.slice A0 l0.length c0, .int .i64 0, .int .i64 x3_1]) (t:=90) ?_;intro gb103 hg w6 hbox hb;have BK103:=Aside0.mk (hbox);have GW103:=Aside0.mk ((by rw [hg];exact (below_size (by repeat (first|(with_reducible first|exact HBW.out|apply below_alloc|apply pw_below_drewN|apply below_drew1)|exact HBW.out))):w.heap.size≤gb103));have GE103:=Aside0.mk ((Nat.le_trans HW0.out (by rw [hg];exact (below_size (by repeat (first|(with_reducible first|exact HBW.out|apply below_alloc|apply pw_below_drewN|apply below_drew1)|exact HBW.out))):w.heap.size≤gb103):w0.heap.size≤gb103));replace HBW:=Aside0.mk (below_step HBW.out hb);replace HB:=bS hb;clear hb hbox hg)));go_ret;(exact⟨_,rfl,(show IsS90 w0 _ gb103 l0 0 x3_1 from ⟨_,_,by (with_reducible repeat (first|refine blk_drewN ?_ _|refine blk_drew ?_|refine blk_alloc ?_ _));exact BK103.out,GE103.out,HR0.out⟩),bB,by repeat (first|(with_reducible first|exact HBW.out|apply below_alloc|apply pw_below_drewN|apply below_drew1|refine below_set ?_ GW103.out)|exact HBW.out)⟩)

def spec_l01In.f (a0:Int) (a1:Int) (a2:Int):Option (Bool):=if a0≥a1 then (some (decide (a0≤a2))) else (some false)
set_option maxHeartbeats 8000000 in
set_option maxRecDepth 100000 in
theorem spec_l01In.calls (a0:Int) (a1:Int) (a2:Int) (r:Bool) (w:World) (h:spec_l01In.f a0 a1 a2=some r) :
    Calls Try.prog 64 #[.int .i64 a0, .int .i64 a1, .int .i64 a2] w fun e w'=>e=.returned (.bool r)∧Drawn0 w w':=by
  have H:(if a0≥a1 then (some (decide (a0≤a2))) else (some false))=some r:=h;clear h;by_cases c4:a0≥a1
  · rw [if_pos c4] at H;have c4b0:decide (a1≤a0)=true:=decide_eq_true c4;clear c4;obtain rfl:=Option.some.inj H;go_enter Try.func64,Try.ntmps64;go_wp2;go_ret;(exact⟨by first|rfl|(simp;done)|(simp [*];done),by repeat (first|exact Drawn0.refl _|apply Drawn0.step)⟩)
  rw [if_neg c4] at H;have c4b0:decide (a1≤a0)=false:=decide_eq_false c4;clear c4;obtain rfl:=Option.some.inj H;go_enter Try.func64,Try.ntmps64;go_wp2;go_ret;(exact⟨by first|rfl|(simp;done)|(simp [*];done),by repeat (first|exact Drawn0.refl _|apply Drawn0.step)⟩)

def spec_AreaFirst.f (a0:Int):Option (Int):=(spec_l01In.f a0 0 1).bind fun t104=>(if t104=true then (some (wrap64 (1+(wrap64 (a0 * 48))))) else (some 0))
set_option maxHeartbeats 8000000 in
set_option maxRecDepth 100000 in
theorem spec_AreaFirst.calls (a0:Int) (r:Int) (w:World) (h:spec_AreaFirst.f a0=some r) :
    Calls Try.prog 38 #[.int .i64 a0] w fun e w'=>e=.returned (.int .i64 r)∧Drawn0 w w':=by
  have H:=h;clear h;unfold spec_AreaFirst.f at H;replace H:=oB H;obtain⟨t104,A20,H⟩:=H;(try dsimp only at H);have A2:=Aside0.mk A20;clear A20;by_cases c3:t104=true
  · subst c3;rw [if_pos rfl] at H;(try dsimp only at H);obtain rfl:=Option.some.inj H;go_enter Try.func38,Try.ntmps38;(go_wp2_with (first|((with_reducible refine gC 64 ?_);refine gL (some 4) Try.func64 #[.int .i64 a0, .int .i64 0, .int .i64 1] ?_;(with_reducible refine (spec_l01In.calls a0 0 1 true _ A2.out).mono ?_);rintro e w' ⟨rfl,⟨nd,rfl⟩⟩;refine⟨_,rfl,?_⟩)));go_ret;(exact⟨by first|rfl|(simp;done)|(simp [*];done),by repeat (first|exact Drawn0.refl _|apply Drawn0.step)⟩)
  replace c3:=Bool.eq_false_iff.mpr c3;subst c3;rw [if_neg (show ¬ (false=true) by decide)] at H;(try dsimp only at H);obtain rfl:=Option.some.inj H;go_enter Try.func38,Try.ntmps38;(go_wp2_with (first|((with_reducible refine gC 64 ?_);refine gL (some 4) Try.func64 #[.int .i64 a0, .int .i64 0, .int .i64 1] ?_;(with_reducible refine (spec_l01In.calls a0 0 1 false _ A2.out).mono ?_);rintro e w' ⟨rfl,⟨nd,rfl⟩⟩;refine⟨_,rfl,?_⟩)));go_ret;(exact⟨by first|rfl|(simp;done)|(simp [*];done),by repeat (first|exact Drawn0.refl _|apply Drawn0.step)⟩)

def spec_ReadSector.l0:Nat→Int→Int→List ByteArray→List (S78)→Option (ByteArray×Bool)
  | 0,_,_,_,_=>none
  | k+1,x1,x6,x106000,x106001=>if x6≥0 then (if 0≤x6 then (if x6 < (x106001.length:Int) then (if ((rd_T78 x106001 x6).f0)=x1 then (some ((rd_T78 x106001 x6).f1,true)) else (spec_ReadSector.l0 k x1 (wrap64 (x6 - 1)) x106000 x106001)) else (none)) else (none)) else (if 0≤x1 then (if x1 < (x106000.length:Int) then (some (rdOf ByteArray.empty x106000 x1,true)) else (none)) else (none))
def spec_ReadSector.f (k:Nat) (l0_0:List ByteArray) (l0_1:List (S78)) (a1:Int):Option (ByteArray×Bool):=(spec_l01In.f a1 0 (wrap64 ((l0_0.length:Int) - 1))).bind fun t106=>(if t106=true then (spec_ReadSector.l0 k a1 (wrap64 ((l0_1.length:Int) - 1)) l0_0 l0_1) else (some ((⟨#[]⟩:ByteArray),false)))
theorem spec_ReadSector.mono_l:∀ k,(∀ y0 y1 y2 y3,LeO (spec_ReadSector.l0 k y0 y1 y2 y3) (spec_ReadSector.l0 (k+1) y0 y1 y2 y3))
  | 0=>fun _ _ _ _ r h=>by simp [spec_ReadSector.l0] at h
  | k+1=>by
    have ih0:=spec_ReadSector.mono_l k
    · intro y0 y1 y2 y3
      unfold spec_ReadSector.l0
      repeat' (with_reducible first|apply ih0|exact LeO.refl _|exact LeO.none _|refine LeO.ite ?_ ?_|refine LeO.bind ?_ (fun _=>?_))
theorem spec_ReadSector.mono:∀ a0 a1 a2 k,LeO (spec_ReadSector.f k a0 a1 a2) (spec_ReadSector.f (k+1) a0 a1 a2):=by
  intro a0 a1 a2 k;have ih0:=spec_ReadSector.mono_l k;unfold spec_ReadSector.f;(repeat' (with_reducible first|apply ih0|exact LeO.refl _|exact LeO.none _|refine LeO.ite ?_ ?_|refine LeO.bind ?_ (fun _=>?_)))
set_option maxHeartbeats 8000000 in
set_option maxRecDepth 100000 in
theorem spec_ReadSector.calls (k:Nat) (A0_0:Option Addr) (c0_0:Nat) (l0_0:List ByteArray) (A0_1:Option Addr) (c0_1:Nat) (l0_1:List (S78)) (a1:Int) (r1:ByteArray) (r2:Bool) (w:World) (hr0_0:Kd.C Kd.string w A0_0 l0_0.length l0_0) (hc0_0:l0_0.length≤c0_0) (hr0_1:Kd.C k78 w A0_1 l0_1.length l0_1) (hc0_1:l0_1.length≤c0_1) (h:spec_ReadSector.f k l0_0 l0_1 a1=some (r1,r2)) :
    Calls Try.prog 93 #[.agg #[.slice A0_0 l0_0.length c0_0, .slice A0_1 l0_1.length c0_1], .int .i64 a1] w fun e w'=>e=.returned (.tuple #[.string r1, .bool r2])∧Below w.heap.size w w':=by
  have hu30:=Try.underlying30;have HR0_0:=Aside0.mk hr0_0;have HC0_0:=Aside0.mk hc0_0;clear hr0_0 hc0_0;have HR0_1:=Aside0.mk hr0_1;have HC0_1:=Aside0.mk hc0_1;clear hr0_1 hc0_1;have HB:=Aside0.mk (Below.refl w.heap.size w);have H:=h;clear h;unfold spec_ReadSector.f at H;replace H:=oB H;obtain⟨t106,A30,H⟩:=H;(try dsimp only at H);have A3:=Aside0.mk A30;clear A30;by_cases c4:t106=true
  ·
   subst c4;rw [if_pos rfl] at H;(try dsimp only at H);have H':=Aside0.mk H;clear H;go_enter Try.func93,Try.ntmps93;(go_wp2_with (first|((with_reducible refine gD 2 ?_);refine bE (N:=2) (cs:=#[.slice A0_0 l0_0.length c0_0, .slice A0_1 l0_1.length c0_1]) (t:=30) ?_;intro gb105 hg w5 hbox hb;have BK105:=Aside0.mk (hbox);have GW105:=gW hg;have GE105:=GW105;replace HB:=bS hb;clear hb hbox hg;obtain⟨hcz6_0,hcz6_1,hfz6_0,hfz6_1⟩:=b2 BK105)|((with_reducible refine gC 64 ?_);refine gL (some 12) Try.func64 #[.int .i64 a1, .int .i64 0, .int .i64 (wrap64 ((l0_0.length:Int) - 1))] ?_;(with_reducible refine (spec_l01In.calls a1 0 (wrap64 ((l0_0.length:Int) - 1)) true _ A3.out).mono ?_);rintro e w' ⟨rfl,⟨nd,rfl⟩⟩;refine⟨_,rfl,?_⟩)));(go_loopg [6] k (fun kq v6 w' => ∃ (x6_1:Int),v6=.int .i64 x6_1∧Aside0 (spec_ReadSector.l0 kq a1 x6_1 l0_0 l0_1=some (r1,r2))∧Aside0 (kq≤k)∧Aside0 (w'.heap[gb105]?=some (.cells #[(.slice A0_0 l0_0.length c0_0),(.slice A0_1 l0_1.length c0_1)] 30 (0,0)))∧Aside0 (Below w.heap.size w w')));(case atStart=>exact⟨(wrap64 ((l0_1.length:Int) - 1)),rS,H',⟨Nat.le_refl _⟩,⟨bk BK105.out⟩,⟨bB⟩⟩)
   case round =>
    clear H';(try clear p2);(try clear c4);(try clear c6);(try clear p6);(try clear hcz6_0);(try clear hcz6_1);(try clear hfz6_0);(try clear hfz6_1);obtain⟨x6_1,rfl,HA,HK1,BK105,HB⟩:=hrel
    cases gk with
    | zero=>exact absurd HA.out (by simp [spec_ReadSector.l0])
    | succ k1 =>
     have H:=HA.out;clear HA;simp only [spec_ReadSector.l0] at H;by_cases c7:x6_1≥0
     ·
      rw [if_pos c7] at H;have c7b0:decide (0≤x6_1)=true:=decide_eq_true c7;clear c7;by_cases c8:0≤x6_1
      ·
       rw [if_pos c8] at H;have c8b0:decide (0≤x6_1)=true:=decide_eq_true c8;clear c8;by_cases c9:x6_1 < (l0_1.length:Int)
       ·
        rw [if_pos c9] at H;have c9b0:decide (x6_1 < (l0_1.length:Int))=true:=decide_eq_true c9;clear c9;by_cases c10:((rd_T78 l0_1 x6_1).f0)=a1
        · rw [if_pos c10] at H;have c10b0:(((rd_T78 l0_1 x6_1).f0)==a1)=true:=beq_iff_eq.mpr c10;have c10b1:(((rd_T78 l0_1 x6_1).f0) != a1)=false:=bne_eq_false_iff_eq.mpr c10;clear c10;simp only [oI,pI] at H;obtain⟨rfl,rfl⟩:=H;obtain⟨hcz11_0,hcz11_1,hfz11_0,hfz11_1⟩:=b2 BK105;(have p107:0≤(x6_1:Int):=of_decide_eq_true (by first|(with_reducible assumption)|assumption));(have q107:x6_1 < (l0_1.length:Int):=of_decide_eq_true (by first|(with_reducible assumption)|assumption));obtain⟨ad107,e107,hx107_0,hx107_1⟩:=at_T78 HR0_1.out x6_1 p107 q107;cases e107;replace hx107_0:=(HB.out.cell (World.block_lt_of_cell? w _ hx107_0)).trans hx107_0;replace hx107_1:=(HB.out.cell (World.block_lt_of_cell? w _ hx107_1)).trans hx107_1;replace p107:=eq_true p107;replace q107:=eq_true q107;(have p108:0≤(x6_1:Int):=of_decide_eq_true (by first|(with_reducible assumption)|assumption));(have q108:x6_1 < (l0_1.length:Int):=of_decide_eq_true (by first|(with_reducible assumption)|assumption));obtain⟨ad108,e108,hx108_0,hx108_1⟩:=at_T78 HR0_1.out x6_1 p108 q108;(obtain rfl:ad107=ad108:=(by injection e108));replace hx108_0:=(HB.out.cell (World.block_lt_of_cell? w _ hx108_0)).trans hx108_0;replace hx108_1:=(HB.out.cell (World.block_lt_of_cell? w _ hx108_1)).trans hx108_1;replace p108:=eq_true p108;replace q108:=eq_true q108;go_wp2;go_ret2;exact⟨eF,bB⟩
        rw [if_neg c10] at H;have c10b0:(((rd_T78 l0_1 x6_1).f0)==a1)=false:=beq_eq_false_iff_ne.mpr c10;have c10b1:(((rd_T78 l0_1 x6_1).f0) != a1)=true:=bne_iff_ne.mpr c10;have H':=Aside0.mk H;clear H;obtain⟨hcz12_0,hcz12_1,hfz12_0,hfz12_1⟩:=b2 BK105;(have p107:0≤(x6_1:Int):=of_decide_eq_true (by first|(with_reducible assumption)|assumption));(have q107:x6_1 < (l0_1.length:Int):=of_decide_eq_true (by first|(with_reducible assumption)|assumption));obtain⟨ad107,e107,hx107_0,hx107_1⟩:=at_T78 HR0_1.out x6_1 p107 q107;cases e107;replace hx107_0:=(HB.out.cell (World.block_lt_of_cell? w _ hx107_0)).trans hx107_0;replace hx107_1:=(HB.out.cell (World.block_lt_of_cell? w _ hx107_1)).trans hx107_1;replace p107:=eq_true p107;replace q107:=eq_true q107;go_wp2;go_roundg k1;(case measure=>have:=HK1.out;omega);(case rel=>exact⟨(wrap64 (x6_1 - 1)),rS,H',⟨by have:=HK1.out;omega⟩,⟨bk BK105.out⟩,⟨bB⟩⟩)
       rw [if_neg c9] at H;(exact absurd H (by simp))
      rw [if_neg c8] at H;(exact absurd H (by simp))
     rw [if_neg c7] at H;have c7b0:decide (0≤x6_1)=false:=decide_eq_false c7;clear c7;by_cases c13:0≤a1
     ·
      rw [if_pos c13] at H;have c13b0:decide (0≤a1)=true:=decide_eq_true c13;clear c13;by_cases c14:a1 < (l0_0.length:Int)
      · rw [if_pos c14] at H;have c14b0:decide (a1 < (l0_0.length:Int))=true:=decide_eq_true c14;clear c14;simp only [oI,pI] at H;obtain⟨rfl,rfl⟩:=H;obtain⟨hcz15_0,hcz15_1,hfz15_0,hfz15_1⟩:=b2 BK105;(have p109:0≤(a1:Int):=of_decide_eq_true (by first|(with_reducible assumption)|assumption));(have q109:a1 < (l0_0.length:Int):=of_decide_eq_true (by first|(with_reducible assumption)|assumption));obtain⟨ad109,e109,hx109_0⟩:=Kd.at_string HR0_0.out a1 p109 q109;cases e109;replace hx109_0:=(HB.out.cell (World.block_lt_of_cell? w _ hx109_0)).trans hx109_0;replace p109:=eq_true p109;replace q109:=eq_true q109;go_wp2;go_ret2;exact⟨eF,bB⟩
      rw [if_neg c14] at H;(exact absurd H (by simp))
     rw [if_neg c13] at H;(exact absurd H (by simp))
  replace c4:=Bool.eq_false_iff.mpr c4;subst c4;rw [if_neg (show ¬ (false=true) by decide)] at H;(try dsimp only at H);simp only [oI,pI] at H;obtain⟨rfl,rfl⟩:=H;go_enter Try.func93,Try.ntmps93;(go_wp2_with (first|((with_reducible refine gD 2 ?_);refine bE (N:=2) (cs:=#[.slice A0_0 l0_0.length c0_0, .slice A0_1 l0_1.length c0_1]) (t:=30) ?_;intro gb105 hg w16 hbox hb;have BK105:=Aside0.mk (hbox);have GW105:=gW hg;have GE105:=GW105;replace HB:=bS hb;clear hb hbox hg;obtain⟨hcz17_0,hcz17_1,hfz17_0,hfz17_1⟩:=b2 BK105)|((with_reducible refine gC 64 ?_);refine gL (some 12) Try.func64 #[.int .i64 a1, .int .i64 0, .int .i64 (wrap64 ((l0_0.length:Int) - 1))] ?_;(with_reducible refine (spec_l01In.calls a1 0 (wrap64 ((l0_0.length:Int) - 1)) false _ A3.out).mono ?_);rintro e w' ⟨rfl,⟨nd,rfl⟩⟩;refine⟨_,rfl,?_⟩)));go_ret2;exact⟨eF,bB⟩

def spec_l04Byte.f (k:Nat) (l0_0:List ByteArray) (l0_1:List (S78)) (a1:Int):Option (Int):=(spec_ReadSector.f k l0_0 l0_1 a1).bind fun bt111=>(if bt111.2=true then (if bt111.1.toList=([]:List UInt8) then (some 0) else (if 0 < (bt111.1.size:Int) then (some (wrap64 (bt bt111.1 0))) else (none))) else (some 0))
theorem spec_l04Byte.mono:∀ a0 a1 a2 k,LeO (spec_l04Byte.f k a0 a1 a2) (spec_l04Byte.f (k+1) a0 a1 a2):=by
  intro a0 a1 a2 k;unfold spec_l04Byte.f;(repeat' (with_reducible first|apply spec_ReadSector.mono|exact LeO.refl _|exact LeO.none _|refine LeO.ite ?_ ?_|refine LeO.bind ?_ (fun _=>?_)))
set_option maxHeartbeats 8000000 in
set_option maxRecDepth 100000 in
theorem spec_l04Byte.calls (k:Nat) (A0_0:Option Addr) (c0_0:Nat) (l0_0:List ByteArray) (A0_1:Option Addr) (c0_1:Nat) (l0_1:List (S78)) (a1:Int) (r:Int) (w:World) (hr0_0:Kd.C Kd.string w A0_0 l0_0.length l0_0) (hc0_0:l0_0.length≤c0_0) (hr0_1:Kd.C k78 w A0_1 l0_1.length l0_1) (hc0_1:l0_1.length≤c0_1) (h:spec_l04Byte.f k l0_0 l0_1 a1=some r) :
    Calls Try.prog 67 #[.agg #[.slice A0_0 l0_0.length c0_0, .slice A0_1 l0_1.length c0_1], .int .i64 a1] w fun e w'=>e=.returned (.int .i64 r)∧Below w.heap.size w w':=by
  have hu30:=Try.underlying30;have HR0_0:=Aside0.mk hr0_0;have HC0_0:=Aside0.mk hc0_0;clear hr0_0 hc0_0;have HR0_1:=Aside0.mk hr0_1;have HC0_1:=Aside0.mk hc0_1;clear hr0_1 hc0_1;have HB:=Aside0.mk (Below.refl w.heap.size w);have H:=h;clear h;unfold spec_l04Byte.f at H;replace H:=oB H;obtain⟨⟨t111,t112⟩,A30,H⟩:=H;(try dsimp only at H);have A3:=Aside0.mk A30;clear A30;by_cases c4:t112=true
  ·
   subst c4;rw [if_pos rfl] at H;(try dsimp only at H);by_cases c5:t111.toList=([]:List UInt8)
   · rw [if_pos c5] at H;have c5b0:(t111.toList==([]:List UInt8))=true:=beq_iff_eq.mpr c5;have c5b1:(t111.toList != ([]:List UInt8))=false:=bne_eq_false_iff_eq.mpr c5;clear c5;obtain rfl:=Option.some.inj H;go_enter Try.func67,Try.ntmps67;(go_wp2_with (first|((with_reducible refine gD 2 ?_);refine bE (N:=2) (cs:=#[.slice A0_0 l0_0.length c0_0, .slice A0_1 l0_1.length c0_1]) (t:=30) ?_;intro gb110 hg w6 hbox hb;have BK110:=Aside0.mk (hbox);have GW110:=gW hg;have GE110:=GW110;replace HB:=bS hb;clear hb hbox hg;obtain⟨hcz7_0,hcz7_1,hfz7_0,hfz7_1⟩:=b2 BK110)|((with_reducible refine gC 93 ?_);refine gL (some 10) Try.func93 #[.agg #[.slice A0_0 l0_0.length c0_0, .slice A0_1 l0_1.length c0_1], .int .i64 a1] ?_;(with_reducible refine (spec_ReadSector.calls k _ _ l0_0 _ _ l0_1 a1 t111 true _ ?side1 HC0_0.out ?side3 HC0_1.out A3.out).mono ?_);(case side1=>exact cB HR0_0);(case side3=>exact cB HR0_1);rintro e w8 ⟨rfl,hb⟩;refine⟨_,rfl,?_⟩;replace BK110:=kB BK110 hb;replace HB:=bS hb;(try clear hb))));go_ret;exact⟨eF,bB⟩
   rw [if_neg c5] at H;have c5b0:(t111.toList==([]:List UInt8))=false:=beq_eq_false_iff_ne.mpr c5;have c5b1:(t111.toList != ([]:List UInt8))=true:=bne_iff_ne.mpr c5;by_cases c9:0 < (t111.size:Int)
   · rw [if_pos c9] at H;have c9b0:decide (0 < (t111.size:Int))=true:=decide_eq_true c9;(have c9b1:decide (0 < t111.size)=true:=decide_eq_true (by omega));clear c9;obtain rfl:=Option.some.inj H;go_enter Try.func67,Try.ntmps67;(go_wp2_with (first|((with_reducible refine gD 2 ?_);refine bE (N:=2) (cs:=#[.slice A0_0 l0_0.length c0_0, .slice A0_1 l0_1.length c0_1]) (t:=30) ?_;intro gb110 hg w11 hbox hb;have BK110:=Aside0.mk (hbox);have GW110:=gW hg;have GE110:=GW110;replace HB:=bS hb;clear hb hbox hg;obtain⟨hcz12_0,hcz12_1,hfz12_0,hfz12_1⟩:=b2 BK110)|((with_reducible refine gC 93 ?_);refine gL (some 10) Try.func93 #[.agg #[.slice A0_0 l0_0.length c0_0, .slice A0_1 l0_1.length c0_1], .int .i64 a1] ?_;(with_reducible refine (spec_ReadSector.calls k _ _ l0_0 _ _ l0_1 a1 t111 true _ ?side1 HC0_0.out ?side3 HC0_1.out A3.out).mono ?_);(case side1=>exact cB HR0_0);(case side3=>exact cB HR0_1);rintro e w13 ⟨rfl,hb⟩;refine⟨_,rfl,?_⟩;replace BK110:=kB BK110 hb;replace HB:=bS hb;(try clear hb);have p10:0≤(0:Int):=(by omega);have q10:0 < t111.size:=(by have:(0:Int) < (t111.size:Int):=of_decide_eq_true (by first|(with_reducible assumption)|assumption);omega);have hx10:∀ h:0 < t111.size,((t111[0]'h).toNat:Int)=bt t111 0:=bt_at t111 0;clear p10;have qi10:(0 < (t111.size:Int))=True:=eq_true (of_decide_eq_true (by first|(with_reducible assumption)|assumption));replace q10:=eq_true q10)));go_ret;exact⟨eF,bB⟩
   rw [if_neg c9] at H;(exact absurd H (by simp))
  replace c4:=Bool.eq_false_iff.mpr c4;subst c4;rw [if_neg (show ¬ (false=true) by decide)] at H;(try dsimp only at H);obtain rfl:=Option.some.inj H;go_enter Try.func67,Try.ntmps67;(go_wp2_with (first|((with_reducible refine gD 2 ?_);refine bE (N:=2) (cs:=#[.slice A0_0 l0_0.length c0_0, .slice A0_1 l0_1.length c0_1]) (t:=30) ?_;intro gb110 hg w14 hbox hb;have BK110:=Aside0.mk (hbox);have GW110:=gW hg;have GE110:=GW110;replace HB:=bS hb;clear hb hbox hg;obtain⟨hcz15_0,hcz15_1,hfz15_0,hfz15_1⟩:=b2 BK110)|((with_reducible refine gC 93 ?_);refine gL (some 10) Try.func93 #[.agg #[.slice A0_0 l0_0.length c0_0, .slice A0_1 l0_1.length c0_1], .int .i64 a1] ?_;(with_reducible refine (spec_ReadSector.calls k _ _ l0_0 _ _ l0_1 a1 t111 false _ ?side1 HC0_0.out ?side3 HC0_1.out A3.out).mono ?_);(case side1=>exact cB HR0_0);(case side3=>exact cB HR0_1);rintro e w16 ⟨rfl,hb⟩;refine⟨_,rfl,?_⟩;replace BK110:=kB BK110 hb;replace HB:=bS hb;(try clear hb))));go_ret;exact⟨eF,bB⟩

def spec_CountIn.f (k:Nat) (l0_0:List ByteArray) (l0_1:List (S78)) (a1:Int):Option (Int):=(spec_l01In.f a1 0 1).bind fun t114=>(if t114=true then ((spec_AreaFirst.f a1).bind fun t115=>((spec_l04Byte.f k l0_0 l0_1 t115).bind fun t116=>(some t116))) else (some 0))
theorem spec_CountIn.mono:∀ a0 a1 a2 k,LeO (spec_CountIn.f k a0 a1 a2) (spec_CountIn.f (k+1) a0 a1 a2):=by
  intro a0 a1 a2 k;unfold spec_CountIn.f;(repeat' (with_reducible first|apply spec_l04Byte.mono|exact LeO.refl _|exact LeO.none _|refine LeO.ite ?_ ?_|refine LeO.bind ?_ (fun _=>?_)))
set_option maxHeartbeats 8000000 in
set_option maxRecDepth 100000 in
theorem spec_CountIn.calls (k:Nat) (A0_0:Option Addr) (c0_0:Nat) (l0_0:List ByteArray) (A0_1:Option Addr) (c0_1:Nat) (l0_1:List (S78)) (a1:Int) (r:Int) (w:World) (hr0_0:Kd.C Kd.string w A0_0 l0_0.length l0_0) (hc0_0:l0_0.length≤c0_0) (hr0_1:Kd.C k78 w A0_1 l0_1.length l0_1) (hc0_1:l0_1.length≤c0_1) (h:spec_CountIn.f k l0_0 l0_1 a1=some r) :
    Calls Try.prog 36 #[.agg #[.slice A0_0 l0_0.length c0_0, .slice A0_1 l0_1.length c0_1], .int .i64 a1] w fun e w'=>e=.returned (.int .i64 r)∧Below w.heap.size w w':=by
  have hu30:=Try.underlying30;have HR0_0:=Aside0.mk hr0_0;have HC0_0:=Aside0.mk hc0_0;clear hr0_0 hc0_0;have HR0_1:=Aside0.mk hr0_1;have HC0_1:=Aside0.mk hc0_1;clear hr0_1 hc0_1;have HB:=Aside0.mk (Below.refl w.heap.size w);have H:=h;clear h;unfold spec_CountIn.f at H;replace H:=oB H;obtain⟨t114,A30,H⟩:=H;(try dsimp only at H);have A3:=Aside0.mk A30;clear A30;by_cases c4:t114=true
  ·
   subst c4;rw [if_pos rfl] at H;(try dsimp only at H);replace H:=oB H;obtain⟨t115,A50,H⟩:=H;(try dsimp only at H);have A5:=Aside0.mk A50;clear A50;replace H:=oB H;obtain⟨t116,A60,H⟩:=H;(try dsimp only at H);have A6:=Aside0.mk A60;clear A60;obtain rfl:=Option.some.inj H;go_enter Try.func36,Try.ntmps36;(try go_wp2_with (first|((with_reducible refine gD 2 ?_);refine bE (N:=2) (cs:=#[.slice A0_0 l0_0.length c0_0, .slice A0_1 l0_1.length c0_1]) (t:=30) ?_;intro gb113 hg w7 hbox hb;have BK113:=Aside0.mk (hbox);have GW113:=gW hg;have GE113:=GW113;replace HB:=bS hb;clear hb hbox hg)|((with_reducible refine gC 64 ?_);refine gL (some 6) Try.func64 #[.int .i64 a1, .int .i64 0, .int .i64 1] ?_;(with_reducible refine (spec_l01In.calls a1 0 1 true _ A3.out).mono ?_);rintro e w' ⟨rfl,⟨nd,rfl⟩⟩;refine⟨_,rfl,?_⟩)));(try (rw [drewN_self w7];generalize hq_:World.drewN w7 _=w7;have n0_:Aside0 (w7.heap[gb113]?=some (.cells #[.slice A0_0 l0_0.length c0_0, .slice A0_1 l0_1.length c0_1] 30 (0,0))):=⟨by rw [← hq_];exact (bk BK113.out)⟩;have n1_:Aside0 (Below w.heap.size w w7):=⟨by rw [← hq_];exact bB⟩;clear BK113 HB hq_;have BK113:=n0_;have HB:=n1_;clear n0_ n1_));replace BK113:=Aside0.mk (blk_drew BK113.out);replace HB:=Aside0.mk (below_drew1 HB.out);(refine start_ (n:=5) (S:=fun w'=>w'.cell? ⟨gb113,0,none⟩=some (.slice A0_0 l0_0.length c0_0)∧w'.cell? ⟨gb113,1,none⟩=some (.slice A0_1 l0_1.length c0_1)) (ds:=[]) #[F,F,F,F,F] (by kernel_rfl) rfl rfl (b3 BK113) (fun hHeld=>?_));generalize w7.drew=w8 at BK113 HB hHeld ⊢;(refine pure_ (i:=1) (N:=some 9) (v:=?_) (a':=?_) #[F,T,F,F,F] rfl rfl (by kernel_rfl) (fun _ _ _ h=>h) (Or.inl ⟨by rfl,?_⟩) ?_ ?_);rotate_left
   · intro w';go_simp;(with_reducible rfl)
   rotate_left
   · simp only [Act.put,lB,lZ,lS,i64_w,i32_w];rfl
   (refine take_ (i:=0) (N:=some 8) (v:=?_) (a':=?_) #[T,T,F,F,F] rfl rfl (by kernel_rfl) (fun _ _ _ h=>h) (Or.inl ⟨by rfl,?_⟩) hHeld ?_ ?_);rotate_left
   · rintro w' ⟨s0,s1⟩;go_simp;(with_reducible rfl)
   rotate_left
   · simp only [Act.put,lB,lZ,lS,i64_w,i32_w];rfl
   (refine one_ (i:=2) (N:=some 10) #[T,T,T,F,F] rfl rfl (by kernel_rfl) (by decide) (fun K hK=>?_));(refine gO Try.func38 #[.int .i64 a1] ?_);(with_reducible refine (spec_AreaFirst.calls a1 t115 _ A5.out).mono ?_);rintro e w' ⟨rfl,⟨nd,rfl⟩⟩;refine⟨_,rfl,?_⟩;(refine hK.out _ _ (b3 BK113) (fun hHeld=>?_));clear hK K;refine nT ?_;(refine one_ (i:=3) (N:=some 11) #[T,T,T,T,F] rfl rfl (by kernel_rfl) (by decide) (fun K hK=>?_));(refine gO Try.func67 #[.agg #[.slice A0_0 l0_0.length c0_0, .slice A0_1 l0_1.length c0_1], .int .i64 t115] ?_);(with_reducible refine (spec_l04Byte.calls k _ _ l0_0 _ _ l0_1 t115 t116 _ ?side1 HC0_0.out ?side3 HC0_1.out A6.out).mono ?_);(case side1=>repeat (first|exact (Kd.C_below HR0_0.out bB)|(with_reducible refine Kd.C_alloc ?_ _)|(with_reducible refine Kd.C_drewN ?_ _)|(with_reducible refine Kd.C_drew ?_)));(case side3=>repeat (first|exact (Kd.C_below HR0_1.out bB)|(with_reducible refine Kd.C_alloc ?_ _)|(with_reducible refine Kd.C_drewN ?_ _)|(with_reducible refine Kd.C_drew ?_)));rintro e w9 ⟨rfl,hb⟩;refine⟨_,rfl,?_⟩;replace BK113:=kB BK113 hb;replace HB:=bS hb;(try clear hb);(try clear hb2);(try clear hk);(try clear hi);(refine hK.out _ _ (b3 BK113) (fun hHeld=>?_));clear hK K;refine nT ?_;(refine pure_ (i:=4) (N:=some 4) (v:=?_) (a':=?_) #[T,T,T,T,T] rfl rfl (by kernel_rfl) (fun _ _ _ h=>h) (Or.inl ⟨by rfl,?_⟩) ?_ ?_);rotate_left
   · intro w';go_simp;(with_reducible rfl)
   rotate_left
   · simp only [Act.put,lB,lZ,lS,i64_w,i32_w];rfl
   (refine done_ (by kernel_rfl) ?_);(try go_wp2);go_ret;exact⟨eF,bB⟩
  replace c4:=Bool.eq_false_iff.mpr c4;subst c4;rw [if_neg (show ¬ (false=true) by decide)] at H;(try dsimp only at H);obtain rfl:=Option.some.inj H;go_enter Try.func36,Try.ntmps36;(go_wp2_with (first|((with_reducible refine gD 2 ?_);refine bE (N:=2) (cs:=#[.slice A0_0 l0_0.length c0_0, .slice A0_1 l0_1.length c0_1]) (t:=30) ?_;intro gb113 hg w10 hbox hb;have BK113:=Aside0.mk (hbox);have GW113:=gW hg;have GE113:=GW113;replace HB:=bS hb;clear hb hbox hg)|((with_reducible refine gC 64 ?_);refine gL (some 6) Try.func64 #[.int .i64 a1, .int .i64 0, .int .i64 1] ?_;(with_reducible refine (spec_l01In.calls a1 0 1 false _ A3.out).mono ?_);rintro e w' ⟨rfl,⟨nd,rfl⟩⟩;refine⟨_,rfl,?_⟩)));go_ret;exact⟨eF,bB⟩

mutual
def spec_SectorText.l0:Nat→Int→Int→ByteArray→Int→List ByteArray→List (S78)→Option (ByteArray×Bool)
  | 0,_,_,_,_,_,_=>none
  | k+1,x1,x2,x8,x9,x118000,x118001=>if x9 < x2 then (if x1 < 0 then (spec_SectorText.j1 k x1 x2 x8 x9 true x118000 x118001) else (spec_SectorText.j1 k x1 x2 x8 x9 (decide (x1 > (x118000.length:Int))) x118000 x118001)) else (some (x8,true))
def spec_SectorText.j1:Nat→Int→Int→ByteArray→Int→Bool→List ByteArray→List (S78)→Option (ByteArray×Bool)
  | 0,_,_,_,_,_,_,_=>none
  | k+1,x1,x2,x8,x9,x28,x118000,x118001=>if x28=true then (some ((⟨#[]⟩:ByteArray),false)) else ((spec_ReadSector.f k x118000 x118001 (wrap64 (x1+x9))).bind fun bt119=>(if bt119.2=true then (if x8.size+bt119.1.size≤9223372036854775807 then (spec_SectorText.l0 k x1 x2 (x8++bt119.1) (wrap64 (x9+1)) x118000 x118001) else (none)) else (some ((⟨#[]⟩:ByteArray),false))))
end
def spec_SectorText.f (k:Nat) (l0_0:List ByteArray) (l0_1:List (S78)) (a1:Int) (a2:Int):Option (ByteArray×Bool):=(spec_l01In.f a2 0 100).bind fun t118=>(if t118=true then (spec_SectorText.l0 k a1 a2 (⟨#[]⟩:ByteArray) 0 l0_0 l0_1) else (some ((⟨#[]⟩:ByteArray),false)))
theorem spec_SectorText.mono_l:∀ k,(∀ y0 y1 y2 y3 y4 y5,LeO (spec_SectorText.l0 k y0 y1 y2 y3 y4 y5) (spec_SectorText.l0 (k+1) y0 y1 y2 y3 y4 y5))∧(∀ y0 y1 y2 y3 y4 y5 y6,LeO (spec_SectorText.j1 k y0 y1 y2 y3 y4 y5 y6) (spec_SectorText.j1 (k+1) y0 y1 y2 y3 y4 y5 y6))
  | 0=>⟨fun _ _ _ _ _ _ r h=>by simp [spec_SectorText.l0] at h,fun _ _ _ _ _ _ _ r h=>by simp [spec_SectorText.j1] at h⟩
  | k+1=>by
    obtain⟨ih0,ih1⟩:=spec_SectorText.mono_l k
    refine⟨?_,?_⟩
    · intro y0 y1 y2 y3 y4 y5
      unfold spec_SectorText.l0
      repeat' (with_reducible first|apply ih0|apply ih1|apply spec_ReadSector.mono|exact LeO.refl _|exact LeO.none _|refine LeO.ite ?_ ?_|refine LeO.bind ?_ (fun _=>?_))
    · intro y0 y1 y2 y3 y4 y5 y6
      unfold spec_SectorText.j1
      repeat' (with_reducible first|apply ih0|apply ih1|apply spec_ReadSector.mono|exact LeO.refl _|exact LeO.none _|refine LeO.ite ?_ ?_|refine LeO.bind ?_ (fun _=>?_))
theorem spec_SectorText.mono:∀ a0 a1 a2 a3 k,LeO (spec_SectorText.f k a0 a1 a2 a3) (spec_SectorText.f (k+1) a0 a1 a2 a3):=by
  intro a0 a1 a2 a3 k;obtain⟨ih0,ih1⟩:=spec_SectorText.mono_l k;unfold spec_SectorText.f;(repeat' (with_reducible first|apply ih0|apply ih1|apply spec_ReadSector.mono|exact LeO.refl _|exact LeO.none _|refine LeO.ite ?_ ?_|refine LeO.bind ?_ (fun _=>?_)))
set_option maxHeartbeats 8000000 in
set_option maxRecDepth 100000 in
theorem spec_SectorText.calls (k:Nat) (A0_0:Option Addr) (c0_0:Nat) (l0_0:List ByteArray) (A0_1:Option Addr) (c0_1:Nat) (l0_1:List (S78)) (a1:Int) (a2:Int) (r1:ByteArray) (r2:Bool) (w:World) (hr0_0:Kd.C Kd.string w A0_0 l0_0.length l0_0) (hc0_0:l0_0.length≤c0_0) (hr0_1:Kd.C k78 w A0_1 l0_1.length l0_1) (hc0_1:l0_1.length≤c0_1) (h:spec_SectorText.f k l0_0 l0_1 a1 a2=some (r1,r2)) :
    Calls Try.prog 65 #[.agg #[.slice A0_0 l0_0.length c0_0, .slice A0_1 l0_1.length c0_1], .int .i64 a1, .int .i64 a2] w fun e w'=>e=.returned (.tuple #[.string r1, .bool r2])∧Below w.heap.size w w':=by
  have hu30:=Try.underlying30;have HR0_0:=Aside0.mk hr0_0;have HC0_0:=Aside0.mk hc0_0;clear hr0_0 hc0_0;have HR0_1:=Aside0.mk hr0_1;have HC0_1:=Aside0.mk hc0_1;clear hr0_1 hc0_1;have HB:=Aside0.mk (Below.refl w.heap.size w);have H:=h;clear h;unfold spec_SectorText.f at H;replace H:=oB H;obtain⟨t118,A40,H⟩:=H;(try dsimp only at H);have A4:=Aside0.mk A40;clear A40;by_cases c5:t118=true
  ·
   subst c5;rw [if_pos rfl] at H;(try dsimp only at H);have H':=Aside0.mk H;clear H;go_enter Try.func65,Try.ntmps65;(go_wp2_with (first|((with_reducible refine gD 3 ?_);(try (refine gate_guard (by rfl) ?_;dsimp only));refine bE (N:=3) (cs:=#[.slice A0_0 l0_0.length c0_0, .slice A0_1 l0_1.length c0_1]) (t:=30) ?_;intro gb117 hg w6 hbox hb;have BK117:=Aside0.mk (hbox);have GW117:=gW hg;have GE117:=GW117;replace HB:=bS hb;clear hb hbox hg)|((with_reducible refine gC 64 ?_);refine gL (some 13) Try.func64 #[.int .i64 a2, .int .i64 0, .int .i64 100] ?_;(with_reducible refine (spec_l01In.calls a2 0 100 true _ A4.out).mono ?_);rintro e w' ⟨rfl,⟨nd,rfl⟩⟩;refine⟨_,rfl,?_⟩)));(go_loopg [8,9] k (fun kq v8 v9 w' => ∃ (x8_1:ByteArray) (x9_1:Int),v8=.string x8_1∧v9=.int .i64 x9_1∧Aside0 (spec_SectorText.l0 kq a1 a2 x8_1 x9_1 l0_0 l0_1=some (r1,r2))∧Aside0 (kq≤k)∧Aside0 (w'.heap[gb117]?=some (.cells #[(.slice A0_0 l0_0.length c0_0),(.slice A0_1 l0_1.length c0_1)] 30 (0,0)))∧Aside0 (Below w.heap.size w w')));(case atStart=>exact⟨((⟨#[]⟩:ByteArray)),(0),rS,rS,H',⟨Nat.le_refl _⟩,⟨bk BK117.out⟩,⟨bB⟩⟩)
   case round =>
    clear H';(try clear p2);(try clear c5);(try clear c6);obtain⟨x8_1,x9_1,rfl,rfl,HA,HK1,BK117,HB⟩:=hrel
    cases gk with
    | zero=>exact absurd HA.out (by simp [spec_SectorText.l0])
    | succ k1 =>
     have H:=HA.out;clear HA;simp only [spec_SectorText.l0] at H;by_cases c7:x9_1 < a2
     ·
      rw [if_pos c7] at H;have c7b0:decide (x9_1 < a2)=true:=decide_eq_true c7;clear c7;have HC8:=Aside0.mk H;clear H;go_upto_region 7 with (fail);(go_cut [28] (fun v28 wc => ∃ (kq:Nat) (x28_7:Bool),v28=.bool x28_7∧Aside0 (spec_SectorText.j1 kq a1 a2 x8_1 x9_1 x28_7 l0_0 l0_1=some (r1,r2))∧Aside0 (kq≤k1)∧Aside0 (wc.heap[gb117]?=some (.cells #[(.slice A0_0 l0_0.length c0_0),(.slice A0_1 l0_1.length c0_1)] 30 (0,0)))∧Aside0 (Below w.heap.size w wc)))
      case first =>
       have H:=HC8.out;clear HC8;by_cases c9:a1 < 0
       · rw [if_pos c9] at H;have c9b0:decide (a1 < 0)=true:=decide_eq_true c9;clear c9;(first|rw [c9b0]|(simp only [i64_w,i32_w];rw [c9b0])|skip);have H':=Aside0.mk H;clear H;go_wp2;go_meet;(case rel=>exact⟨_,(true),rS,H',⟨by have:=HK1.out;first|omega|exact Nat.le_refl _⟩,⟨bk BK117.out⟩,⟨bB⟩⟩)
       rw [if_neg c9] at H;have c9b0:decide (a1 < 0)=false:=decide_eq_false c9;clear c9;(first|rw [c9b0]|(simp only [i64_w,i32_w];rw [c9b0])|skip);have H':=Aside0.mk H;clear H;obtain⟨hcz10_0,hcz10_1,hfz10_0,hfz10_1⟩:=b2 BK117;go_wp2;go_meet;(case rel=>exact⟨_,(decide (a1 > (l0_0.length:Int))),rS,H',⟨by have:=HK1.out;first|omega|exact Nat.le_refl _⟩,⟨bk BK117.out⟩,⟨bB⟩⟩)
      case rest =>
       clear HC8;(try clear p2);(try clear c5);(try clear c6);(try clear c7);(try clear c7b0);(try clear c9);(try clear c9b0);(try clear hcz10_0);(try clear hcz10_1);(try clear hfz10_0);(try clear hfz10_1);(try clear p2);obtain⟨kq,x28_7,rfl,HA,HJ7,BK117,HB⟩:=hcut
       cases kq with
       | zero=>exact absurd HA.out (by simp [spec_SectorText.j1])
       | succ kj7 =>
        have H:=HA.out;clear HA;simp only [spec_SectorText.j1] at H;by_cases c11:x28_7=true
        · subst c11;rw [if_pos rfl] at H;(try dsimp only at H);simp only [oI,pI] at H;obtain⟨rfl,rfl⟩:=H;go_wp2;go_ret2;exact⟨eF,bB⟩
        replace c11:=Bool.eq_false_iff.mpr c11;subst c11;rw [if_neg (show ¬ (false=true) by decide)] at H;(try dsimp only at H);replace H:=oB H;obtain⟨⟨t119,t120⟩,A120,H⟩:=H;(try dsimp only at H);have A12:=Aside0.mk A120;clear A120;by_cases c13:t120=true
        ·
         subst c13;rw [if_pos rfl] at H;(try dsimp only at H);by_cases c14:x8_1.size+t119.size≤9223372036854775807
         · rw [if_pos c14] at H;have c14b0:=eq_true c14;have c14b1:decide (x8_1.size+t119.size≤9223372036854775807)=true:=decide_eq_true c14;(try have c14b2:(9223372036854775807 < x8_1.size+t119.size)=False:=eq_false (Nat.not_lt.2 c14));have H':=Aside0.mk H;clear H;obtain⟨hcz15_0,hcz15_1,hfz15_0,hfz15_1⟩:=b2 BK117;(go_wp2_with (first|((with_reducible refine gC 93 ?_);refine gL (some 34) Try.func93 #[.agg #[.slice A0_0 l0_0.length c0_0, .slice A0_1 l0_1.length c0_1], .int .i64 (wrap64 (a1+x9_1))] ?_;(with_reducible refine (spec_ReadSector.calls kj7 _ _ l0_0 _ _ l0_1 (wrap64 (a1+x9_1)) t119 true _ ?side1 HC0_0.out ?side3 HC0_1.out A12.out).mono ?_);(case side1=>exact cB HR0_0);(case side3=>exact cB HR0_1);rintro e w16 ⟨rfl,hb⟩;refine⟨_,rfl,?_⟩;replace BK117:=kB BK117 hb;replace HB:=bS hb;(try clear hb))));go_roundg kj7;(case measure=>have:=HK1.out;have:=HJ7.out;omega);(case rel=>exact⟨(x8_1++t119),(wrap64 (x9_1+1)),rS,rS,H',⟨by have:=HK1.out;have:=HJ7.out;omega⟩,⟨bk BK117.out⟩,⟨bB⟩⟩)
         rw [if_neg c14] at H;(exact absurd H (by simp))
        replace c13:=Bool.eq_false_iff.mpr c13;subst c13;rw [if_neg (show ¬ (false=true) by decide)] at H;(try dsimp only at H);simp only [oI,pI] at H;obtain⟨rfl,rfl⟩:=H;obtain⟨hcz17_0,hcz17_1,hfz17_0,hfz17_1⟩:=b2 BK117;(go_wp2_with (first|((with_reducible refine gC 93 ?_);refine gL (some 34) Try.func93 #[.agg #[.slice A0_0 l0_0.length c0_0, .slice A0_1 l0_1.length c0_1], .int .i64 (wrap64 (a1+x9_1))] ?_;(with_reducible refine (spec_ReadSector.calls kj7 _ _ l0_0 _ _ l0_1 (wrap64 (a1+x9_1)) t119 false _ ?side1 HC0_0.out ?side3 HC0_1.out A12.out).mono ?_);(case side1=>exact cB HR0_0);(case side3=>exact cB HR0_1);rintro e w18 ⟨rfl,hb⟩;refine⟨_,rfl,?_⟩;replace BK117:=kB BK117 hb;replace HB:=bS hb;(try clear hb))));go_ret2;exact⟨eF,bB⟩
     rw [if_neg c7] at H;have c7b0:decide (x9_1 < a2)=false:=decide_eq_false c7;clear c7;simp only [oI,pI] at H;obtain⟨rfl,rfl⟩:=H;go_wp2;go_ret2;exact⟨eF,bB⟩
  replace c5:=Bool.eq_false_iff.mpr c5;subst c5;rw [if_neg (show ¬ (false=true) by decide)] at H;(try dsimp only at H);simp only [oI,pI] at H;obtain⟨rfl,rfl⟩:=H;go_enter Try.func65,Try.ntmps65;(go_wp2_with (first|((with_reducible refine gD 3 ?_);(try (refine gate_guard (by rfl) ?_;dsimp only));refine bE (N:=3) (cs:=#[.slice A0_0 l0_0.length c0_0, .slice A0_1 l0_1.length c0_1]) (t:=30) ?_;intro gb117 hg w19 hbox hb;have BK117:=Aside0.mk (hbox);have GW117:=gW hg;have GE117:=GW117;replace HB:=bS hb;clear hb hbox hg)|((with_reducible refine gC 64 ?_);refine gL (some 13) Try.func64 #[.int .i64 a2, .int .i64 0, .int .i64 100] ?_;(with_reducible refine (spec_l01In.calls a2 0 100 false _ A4.out).mono ?_);rintro e w' ⟨rfl,⟨nd,rfl⟩⟩;refine⟨_,rfl,?_⟩)));go_ret2;exact⟨eF,bB⟩

end Go.Proofs.Ytjnghaajmdaggaa.QFnLogs
