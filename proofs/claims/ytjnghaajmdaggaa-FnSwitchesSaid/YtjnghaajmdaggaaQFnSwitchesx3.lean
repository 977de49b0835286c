/- Sq: Go functions as Lean functions, and that the code comes to what they say: written by this session's program. Conditions: as each theorem states. -/
import Derived.Test.YtjnghaajmdaggaaQFnSwitchesx0
import Derived.Test.YtjnghaajmdaggaaQFnSwitchesx2
namespace Go.Proofs.Ytjnghaajmdaggaa.QFnSwitches
open Go.RowKit Go.Proofs.YtjnghaajmdaggaaW.PrintWords Go.Proofs.YtjnghaajmdaggaaW.PrintLast Go.Proofs.YtjnghaajmdaggaaW.PrintMore Go.Proofs.YtjnghaajmdaggaaW.Sh
attribute [local go_sem] max2_int min2_int max_two min_two max_three min_three max_four min_four
set_option linter.unusedVariables false
set_option linter.unusedSimpArgs false

mutual
def spec_ReadVar.l0:Nat→ByteArray→Int→Int→Int→Int→Option (Int×Int×Bool)
  | 0,_,_,_,_,_=>none
  | k+1,x0,x1,x7,x8,x9=>if x9 < (x0.size:Int) then (spec_ReadVar.j1 k x0 x1 x7 x8 x9 (decide (x9 < (wrap64 (x1+5))))) else (spec_ReadVar.j1 k x0 x1 x7 x8 x9 false)
def spec_ReadVar.j1:Nat→ByteArray→Int→Int→Int→Int→Bool→Option (Int×Int×Bool)
  | 0,_,_,_,_,_,_=>none
  | k+1,x0,x1,x7,x8,x9,x25=>if x25=true then (if 0≤x9 then (if x9 < (x0.size:Int) then (if (bt x0 x9) < 128 then (if (wrap64 (x7+(wrap64 ((Int.tmod (wrap64 (bt x0 x9)) 128) * x8)))) > 1000000000 then (some (0,0,false)) else ((spec_l01Var.f k (wrap64 (x7+(wrap64 ((Int.tmod (wrap64 (bt x0 x9)) 128) * x8))))).bind fun t128=>(if 0≤x1 then (if x1≤(wrap64 (x9+1)) then (if (wrap64 (x9+1))≤(x0.size:Int) then (if t128.toList=(x0.extract (x1:Int).toNat ((wrap64 (x9+1)):Int).toNat).toList then (some (wrap64 (x7+(wrap64 ((Int.tmod (wrap64 (bt x0 x9)) 128) * x8))),wrap64 (x9+1),true)) else (some (0,0,false))) else (none)) else (none)) else (none)))) else (spec_ReadVar.l0 k x0 x1 (wrap64 (x7+(wrap64 ((Int.tmod (wrap64 (bt x0 x9)) 128) * x8)))) (wrap64 (x8 * 128)) (wrap64 (x9+1)))) else (none)) else (none)) else (some (0,0,false))
end
def spec_ReadVar.f (k:Nat) (a0:ByteArray) (a1:Int):Option (Int×Int×Bool):=(spec_l01In.f a1 0 (a0.size:Int)).bind fun t127=>(if t127=true then (spec_ReadVar.l0 k a0 a1 0 1 a1) else (some (0,0,false)))
theorem spec_ReadVar.mono_l:∀ k,(∀ y0 y1 y2 y3 y4,LeO (spec_ReadVar.l0 k y0 y1 y2 y3 y4) (spec_ReadVar.l0 (k+1) y0 y1 y2 y3 y4))∧(∀ y0 y1 y2 y3 y4 y5,LeO (spec_ReadVar.j1 k y0 y1 y2 y3 y4 y5) (spec_ReadVar.j1 (k+1) y0 y1 y2 y3 y4 y5))
  | 0=>⟨fun _ _ _ _ _ r h=>by simp [spec_ReadVar.l0] at h,fun _ _ _ _ _ _ r h=>by simp [spec_ReadVar.j1] at h⟩
  | k+1=>by
    obtain⟨ih0,ih1⟩:=spec_ReadVar.mono_l k
    refine⟨?_,?_⟩
    · intro y0 y1 y2 y3 y4
      unfold spec_ReadVar.l0
      repeat' (with_reducible first|apply ih0|apply ih1|apply spec_l01Var.mono|exact LeO.refl _|exact LeO.none _|refine LeO.ite ?_ ?_|refine LeO.bind ?_ (fun _=>?_))
    · intro y0 y1 y2 y3 y4 y5
      unfold spec_ReadVar.j1
      repeat' (with_reducible first|apply ih0|apply ih1|apply spec_l01Var.mono|exact LeO.refl _|exact LeO.none _|refine LeO.ite ?_ ?_|refine LeO.bind ?_ (fun _=>?_))
theorem spec_ReadVar.mono:∀ a0 a1 k,LeO (spec_ReadVar.f k a0 a1) (spec_ReadVar.f (k+1) a0 a1):=by
  intro a0 a1 k;obtain⟨ih0,ih1⟩:=spec_ReadVar.mono_l k;unfold spec_ReadVar.f;(repeat' (with_reducible first|apply ih0|apply ih1|apply spec_l01Var.mono|exact LeO.refl _|exact LeO.none _|refine LeO.ite ?_ ?_|refine LeO.bind ?_ (fun _=>?_)))
def spec_ReadVar.T11:Bool×List (List Nat×List Nat):=(true,[([],[]),([0],[0]),([1],[1]),([2],[2]),([3,2,2],[2,3]),([2],[2]),([2],[2]),([2],[2]),([7,2],[2,7]),([5,6,8,2],[2,5,6,8]),([4,9,2],[2,4,9]),([2,10],[2,10])])
def spec_ReadVar.B11:List Nat:=[0,1,3,7,15,7,7,7,135,487,1023,2047]
theorem spec_ReadVar.tab11:rtab .any (opsOf Try.f94 11)=spec_ReadVar.T11:=by kernel_rfl
theorem spec_ReadVar.bits11:waitsOk spec_ReadVar.T11.2 spec_ReadVar.B11=true:=by kernel_rfl
set_option maxHeartbeats 8000000 in
set_option maxRecDepth 100000 in
theorem spec_ReadVar.calls (k:Nat) (a0:ByteArray) (a1:Int) (r1:Int) (r2:Int) (r3:Bool) (w:World) (h:spec_ReadVar.f k a0 a1=some (r1,r2,r3)) :
    Calls Try.prog 94 #[.string a0, .int .i64 a1] w fun e w'=>e=.returned (.tuple #[.int .i64 r1, .int .i64 r2, .bool r3])∧Below w.heap.size w w':=by
  have HB:=Aside0.mk (Below.refl w.heap.size w);have H:=h;clear h;unfold spec_ReadVar.f at H;replace H:=oB H;obtain⟨t127,A30,H⟩:=H;(try dsimp only at H);have A3:=Aside0.mk A30;clear A30;by_cases c4:t127=true
  ·
   subst c4;rw [if_pos rfl] at H;(try dsimp only at H);have H':=Aside0.mk H;clear H;go_enter Try.func94,Try.ntmps94;(go_wp2_with (first|((with_reducible refine gC 64 ?_);refine gL (some 13) Try.func64 #[.int .i64 a1, .int .i64 0, .int .i64 (a0.size:Int)] ?_;(with_reducible refine (spec_l01In.calls a1 0 (a0.size:Int) true _ A3.out).mono ?_);rintro e w' ⟨rfl,⟨nd,rfl⟩⟩;refine⟨_,rfl,?_⟩)));(go_loopg [7,8,9] k (fun kq v7 v8 v9 w' => ∃ (x7_1:Int) (x8_1:Int) (x9_1:Int),v7=.int .i64 x7_1∧v8=.int .i64 x8_1∧v9=.int .i64 x9_1∧Aside0 (spec_ReadVar.l0 kq a0 a1 x7_1 x8_1 x9_1=some (r1,r2,r3))∧Aside0 (kq≤k)∧Aside0 (Below w.heap.size w w')));(case atStart=>exact⟨(0),(1),(a1),rS,rS,rS,H',⟨Nat.le_refl _⟩,⟨bB⟩⟩)
   case round =>
    clear H';(try clear p2);(try clear c4);obtain⟨x7_1,x8_1,x9_1,rfl,rfl,rfl,HA,HK1,HB⟩:=hrel
    cases gk with
    | zero=>exact absurd HA.out (by simp [spec_ReadVar.l0])
    | succ k1 =>
     have H:=HA.out;clear HA;simp only [spec_ReadVar.l0] at H;have HC5:=Aside0.mk H;clear H;go_upto_region 6 with (fail);(go_cut [25] (fun v25 wc => ∃ (kq:Nat) (x25_4:Bool),v25=.bool x25_4∧Aside0 (spec_ReadVar.j1 kq a0 a1 x7_1 x8_1 x9_1 x25_4=some (r1,r2,r3))∧Aside0 (kq≤k1)∧Aside0 (Below w.heap.size w wc)))
     case first =>
      have H:=HC5.out;clear HC5;by_cases c6:x9_1 < (a0.size:Int)
      · rw [if_pos c6] at H;have c6b0:decide (x9_1 < (a0.size:Int))=true:=decide_eq_true c6;clear c6;(first|rw [c6b0]|(simp only [i64_w,i32_w];rw [c6b0])|skip);have H':=Aside0.mk H;clear H;go_wp2;go_meet;(case rel=>exact⟨_,(decide (x9_1 < (wrap64 (a1+5)))),rS,H',⟨by have:=HK1.out;first|omega|exact Nat.le_refl _⟩,⟨bB⟩⟩)
      rw [if_neg c6] at H;have c6b0:decide (x9_1 < (a0.size:Int))=false:=decide_eq_false c6;clear c6;(first|rw [c6b0]|(simp only [i64_w,i32_w];rw [c6b0])|skip);have H':=Aside0.mk H;clear H;go_wp2;go_meet;(case rel=>exact⟨_,(false),rS,H',⟨by have:=HK1.out;first|omega|exact Nat.le_refl _⟩,⟨bB⟩⟩)
     case rest =>
      clear HC5;(try clear p2);(try clear c4);(try clear c6);(try clear c6b0);(try clear p6);(try clear p2);obtain⟨kq,x25_4,rfl,HA,HJ4,HB⟩:=hcut
      cases kq with
      | zero=>exact absurd HA.out (by simp [spec_ReadVar.j1])
      | succ kj4 =>
       have H:=HA.out;clear HA;simp only [spec_ReadVar.j1] at H;by_cases c7:x25_4=true
       ·
        subst c7;rw [if_pos rfl] at H;(try dsimp only at H);by_cases c8:0≤x9_1
        ·
         rw [if_pos c8] at H;have c8b0:decide (0≤x9_1)=true:=decide_eq_true c8;clear c8;by_cases c9:x9_1 < (a0.size:Int)
         ·
          rw [if_pos c9] at H;have c9b0:decide (x9_1 < (a0.size:Int))=true:=decide_eq_true c9;clear c9;by_cases c12:(bt a0 x9_1) < 128
          ·
           rw [if_pos c12] at H;have c12b0:decide ((bt a0 x9_1) < 128)=true:=decide_eq_true c12;clear c12;by_cases c13:(wrap64 (x7_1+(wrap64 ((Int.tmod (wrap64 (bt a0 x9_1)) 128) * x8_1)))) > 1000000000
           ·
            rw [if_pos c13] at H;have c13b0:decide (1000000000 < (wrap64 (x7_1+(wrap64 ((Int.tmod (wrap64 (bt a0 x9_1)) 128) * x8_1)))))=true:=decide_eq_true c13;clear c13;simp only [oI,pI] at H;obtain⟨rfl,rfl,rfl⟩:=H;(have p10:0≤(x9_1:Int):=of_decide_eq_true (by first|(with_reducible assumption)|assumption));(have q10:x9_1 < (a0.size:Int):=of_decide_eq_true (by first|(with_reducible assumption)|assumption));have hx10:=bt_at a0 x9_1;replace p10:=eq_true p10;replace q10:=eq_true q10;(have p11:0≤(x9_1:Int):=of_decide_eq_true (by first|(with_reducible assumption)|assumption));(have q11:x9_1 < (a0.size:Int):=of_decide_eq_true (by first|(with_reducible assumption)|assumption));have hx11:=bt_at a0 x9_1;replace p11:=eq_true p11;replace q11:=eq_true q11;(try go_wp2);replace HB:=Aside0.mk (below_drew1 HB.out);(refine start_ (n:=12) (S:=fun w'=>True) (ds:=[]) #[F,F,F,F,F,F,F,F,F,F,F,F] (by kernel_rfl) rfl rfl trivial (fun hHeld=>?_);refine with_tabW spec_ReadVar.tab11 spec_ReadVar.bits11 (fun HT_ HW_=>?_));generalize wc.drew=w14 at HB hHeld ⊢;refine pu (i:=0) (N:=43) #[T,F,F,F,F,F,F,F,F,F,F,F] HT_ ?_;refine pu (i:=1) (N:=44) #[T,T,F,F,F,F,F,F,F,F,F,F] HT_ ?_;refine pu (i:=2) (N:=45) #[T,T,T,F,F,F,F,F,F,F,F,F] HT_ ?_;(refine pure_ (i:=3) (N:=some 46) (v:=undef) (a':=?_) #[T,T,T,T,F,F,F,F,F,F,F,F] rfl rfl (any_of HT_.out (by kernel_rfl)) (fun _ _ _ h=>h) (Or.inr ⟨by rfl,rfl⟩) ?_ ?_);rotate_left
            · simp only [Act.put,lB,lZ,lS,i64_w,i32_w];rfl
            (refine pure_ (i:=4) (N:=some 47) (v:=undef) (a':=?_) #[T,T,T,T,T,F,F,F,F,F,F,F] rfl rfl (any_of HT_.out (by kernel_rfl)) (fun _ _ _ h=>h) (Or.inr ⟨by rfl,rfl⟩) ?_ ?_);rotate_left
            · simp only [Act.put,lB,lZ,lS,i64_w,i32_w];rfl
            (refine pure_ (i:=5) (N:=some 48) (v:=undef) (a':=?_) #[T,T,T,T,T,T,F,F,F,F,F,F] rfl rfl (any_of HT_.out (by kernel_rfl)) (fun _ _ _ h=>h) (Or.inr ⟨by rfl,rfl⟩) ?_ ?_);rotate_left
            · simp only [Act.put,lB,lZ,lS,i64_w,i32_w];rfl
            (refine pure_ (i:=6) (N:=some 49) (v:=undef) (a':=?_) #[T,T,T,T,T,T,T,F,F,F,F,F] rfl rfl (any_of HT_.out (by kernel_rfl)) (fun _ _ _ h=>h) (Or.inr ⟨by rfl,rfl⟩) ?_ ?_);rotate_left
            · simp only [Act.put,lB,lZ,lS,i64_w,i32_w];rfl
            (refine pure_ (i:=7) (N:=some 50) (v:=undef) (a':=?_) #[T,T,T,T,T,T,T,T,F,F,F,F] rfl rfl (any_of HT_.out (by kernel_rfl)) (fun _ _ _ h=>h) (Or.inr ⟨by rfl,rfl⟩) ?_ ?_);rotate_left
            · simp only [Act.put,lB,lZ,lS,i64_w,i32_w];rfl
            (refine pure_ (i:=8) (N:=some 51) (v:=undef) (a':=?_) #[T,T,T,T,T,T,T,T,T,F,F,F] rfl rfl (any_of HT_.out (by kernel_rfl)) (fun _ _ _ h=>h) (Or.inr ⟨by rfl,rfl⟩) ?_ ?_);rotate_left
            · simp only [Act.put,lB,lZ,lS,i64_w,i32_w];rfl
            (refine pure_ (i:=9) (N:=some 52) (v:=undef) (a':=?_) #[T,T,T,T,T,T,T,T,T,T,F,F] rfl rfl (any_of HT_.out (by kernel_rfl)) (fun _ _ _ h=>h) (Or.inr ⟨by rfl,rfl⟩) ?_ ?_);rotate_left
            · simp only [Act.put,lB,lZ,lS,i64_w,i32_w];rfl
            (refine pure_ (i:=10) (N:=some 53) (v:=undef) (a':=?_) #[T,T,T,T,T,T,T,T,T,T,T,F] rfl rfl (any_of HT_.out (by kernel_rfl)) (fun _ _ _ h=>h) (Or.inr ⟨by rfl,rfl⟩) ?_ ?_);rotate_left
            · simp only [Act.put,lB,lZ,lS,i64_w,i32_w];rfl
            refine pu (i:=11) (N:=54) #[T,T,T,T,T,T,T,T,T,T,T,T] HT_ ?_;(refine done_ (done_of HT_.out (by kernel_rfl)) ?_);(try go_wp2);go_ret3;exact⟨eF,bB⟩
           rw [if_neg c13] at H;have c13b0:decide (1000000000 < (wrap64 (x7_1+(wrap64 ((Int.tmod (wrap64 (bt a0 x9_1)) 128) * x8_1)))))=false:=decide_eq_false c13;clear c13;replace H:=oB H;obtain⟨t128,A150,H⟩:=H;(try dsimp only at H);have A15:=Aside0.mk A150;clear A150;by_cases c16:0≤a1
           ·
            rw [if_pos c16] at H;have c16b0:=eq_true c16;have c16b1:decide (0≤a1)=true:=decide_eq_true c16;clear c16;by_cases c17:a1≤(wrap64 (x9_1+1))
            ·
             rw [if_pos c17] at H;have c17b0:=eq_true c17;have c17b1:decide (a1≤(wrap64 (x9_1+1)))=true:=decide_eq_true c17;by_cases c18:(wrap64 (x9_1+1))≤(a0.size:Int)
             ·
              rw [if_pos c18] at H;have c18b0:=eq_true c18;have c18b1:decide ((wrap64 (x9_1+1))≤(a0.size:Int))=true:=decide_eq_true c18;by_cases c19:t128.toList=(a0.extract (a1:Int).toNat ((wrap64 (x9_1+1)):Int).toNat).toList
              · rw [if_pos c19] at H;have c19b0:(t128.toList==(a0.extract (a1:Int).toNat ((wrap64 (x9_1+1)):Int).toNat).toList)=true:=beq_iff_eq.mpr c19;have c19b1:(t128.toList != (a0.extract (a1:Int).toNat ((wrap64 (x9_1+1)):Int).toNat).toList)=false:=bne_eq_false_iff_eq.mpr c19;clear c19;simp only [oI,pI] at H;obtain⟨rfl,rfl,rfl⟩:=H;(have p10:0≤(x9_1:Int):=of_decide_eq_true (by first|(with_reducible assumption)|assumption));(have q10:x9_1 < (a0.size:Int):=of_decide_eq_true (by first|(with_reducible assumption)|assumption));have hx10:=bt_at a0 x9_1;replace p10:=eq_true p10;replace q10:=eq_true q10;(have p11:0≤(x9_1:Int):=of_decide_eq_true (by first|(with_reducible assumption)|assumption));(have q11:x9_1 < (a0.size:Int):=of_decide_eq_true (by first|(with_reducible assumption)|assumption));have hx11:=bt_at a0 x9_1;replace p11:=eq_true p11;replace q11:=eq_true q11;(try go_wp2);replace HB:=Aside0.mk (below_drew1 HB.out);(refine start_ (n:=12) (S:=fun w'=>True) (ds:=[]) #[F,F,F,F,F,F,F,F,F,F,F,F] (by kernel_rfl) rfl rfl trivial (fun hHeld=>?_);refine with_tabW spec_ReadVar.tab11 spec_ReadVar.bits11 (fun HT_ HW_=>?_));generalize wc.drew=w20 at HB hHeld ⊢;refine pu (i:=0) (N:=43) #[T,F,F,F,F,F,F,F,F,F,F,F] HT_ ?_;refine pu (i:=1) (N:=44) #[T,T,F,F,F,F,F,F,F,F,F,F] HT_ ?_;refine pu (i:=2) (N:=45) #[T,T,T,F,F,F,F,F,F,F,F,F] HT_ ?_;refine pu (i:=3) (N:=46) #[T,T,T,T,F,F,F,F,F,F,F,F] HT_ ?_;refine pu (i:=5) (N:=48) #[T,T,T,T,F,T,F,F,F,F,F,F] HT_ ?_;refine pu (i:=6) (N:=49) #[T,T,T,T,F,T,T,F,F,F,F,F] HT_ ?_;refine pu (i:=7) (N:=50) #[T,T,T,T,F,T,T,T,F,F,F,F] HT_ ?_;refine pu (i:=8) (N:=51) #[T,T,T,T,F,T,T,T,T,F,F,F] HT_ ?_;refine pu (i:=9) (N:=52) #[T,T,T,T,F,T,T,T,T,T,F,F] HT_ ?_;(refine oN (i:=4) (N:=some 47) #[T,T,T,T,T,T,T,T,T,T,F,F] HT_ (fun K hK=>?_));(refine gO Try.func104 #[.int .i64 (wrap64 (x7_1+(wrap64 ((Int.tmod (wrap64 (bt a0 x9_1)) 128) * x8_1))))] ?_);(with_reducible refine (spec_l01Var.calls kj4 (wrap64 (x7_1+(wrap64 ((Int.tmod (wrap64 (bt a0 x9_1)) 128) * x8_1)))) t128 _ A15.out).mono ?_);rintro e w21 ⟨rfl,hb⟩;refine⟨_,rfl,?_⟩;replace HB:=bS hb;(try clear hb);(try clear hb2);(try clear hk);(try clear hi);(refine hK.out _ _ trivial (fun hHeld=>?_));clear hK K;refine nT ?_;refine pu (i:=10) (N:=53) #[T,T,T,T,T,T,T,T,T,T,T,F] HT_ ?_;refine pu (i:=11) (N:=54) #[T,T,T,T,T,T,T,T,T,T,T,T] HT_ ?_;(refine done_ (done_of HT_.out (by kernel_rfl)) ?_);(try go_wp2);go_ret3;exact⟨eF,bB⟩
              rw [if_neg c19] at H;have c19b0:(t128.toList==(a0.extract (a1:Int).toNat ((wrap64 (x9_1+1)):Int).toNat).toList)=false:=beq_eq_false_iff_ne.mpr c19;have c19b1:(t128.toList != (a0.extract (a1:Int).toNat ((wrap64 (x9_1+1)):Int).toNat).toList)=true:=bne_iff_ne.mpr c19;simp only [oI,pI] at H;obtain⟨rfl,rfl,rfl⟩:=H;(have p10:0≤(x9_1:Int):=of_decide_eq_true (by first|(with_reducible assumption)|assumption));(have q10:x9_1 < (a0.size:Int):=of_decide_eq_true (by first|(with_reducible assumption)|assumption));have hx10:=bt_at a0 x9_1;replace p10:=eq_true p10;replace q10:=eq_true q10;(have p11:0≤(x9_1:Int):=of_decide_eq_true (by first|(with_reducible assumption)|assumption));(have q11:x9_1 < (a0.size:Int):=of_decide_eq_true (by first|(with_reducible assumption)|assumption));have hx11:=bt_at a0 x9_1;replace p11:=eq_true p11;replace q11:=eq_true q11;(try go_wp2);replace HB:=Aside0.mk (below_drew1 HB.out);(refine start_ (n:=12) (S:=fun w'=>True) (ds:=[]) #[F,F,F,F,F,F,F,F,F,F,F,F] (by kernel_rfl) rfl rfl trivial (fun hHeld=>?_);refine with_tabW spec_ReadVar.tab11 spec_ReadVar.bits11 (fun HT_ HW_=>?_));generalize wc.drew=w22 at HB hHeld ⊢;refine pu (i:=0) (N:=43) #[T,F,F,F,F,F,F,F,F,F,F,F] HT_ ?_;refine pu (i:=1) (N:=44) #[T,T,F,F,F,F,F,F,F,F,F,F] HT_ ?_;refine pu (i:=2) (N:=45) #[T,T,T,F,F,F,F,F,F,F,F,F] HT_ ?_;refine pu (i:=3) (N:=46) #[T,T,T,T,F,F,F,F,F,F,F,F] HT_ ?_;refine pu (i:=5) (N:=48) #[T,T,T,T,F,T,F,F,F,F,F,F] HT_ ?_;refine pu (i:=6) (N:=49) #[T,T,T,T,F,T,T,F,F,F,F,F] HT_ ?_;refine pu (i:=7) (N:=50) #[T,T,T,T,F,T,T,T,F,F,F,F] HT_ ?_;refine pu (i:=8) (N:=51) #[T,T,T,T,F,T,T,T,T,F,F,F] HT_ ?_;refine pu (i:=9) (N:=52) #[T,T,T,T,F,T,T,T,T,T,F,F] HT_ ?_;(refine oN (i:=4) (N:=some 47) #[T,T,T,T,T,T,T,T,T,T,F,F] HT_ (fun K hK=>?_));(refine gO Try.func104 #[.int .i64 (wrap64 (x7_1+(wrap64 ((Int.tmod (wrap64 (bt a0 x9_1)) 128) * x8_1))))] ?_);(with_reducible refine (spec_l01Var.calls kj4 (wrap64 (x7_1+(wrap64 ((Int.tmod (wrap64 (bt a0 x9_1)) 128) * x8_1)))) t128 _ A15.out).mono ?_);rintro e w23 ⟨rfl,hb⟩;refine⟨_,rfl,?_⟩;replace HB:=bS hb;(try clear hb);(try clear hb2);(try clear hk);(try clear hi);(refine hK.out _ _ trivial (fun hHeld=>?_));clear hK K;refine nT ?_;refine pu (i:=10) (N:=53) #[T,T,T,T,T,T,T,T,T,T,T,F] HT_ ?_;refine pu (i:=11) (N:=54) #[T,T,T,T,T,T,T,T,T,T,T,T] HT_ ?_;(refine done_ (done_of HT_.out (by kernel_rfl)) ?_);(try go_wp2);go_ret3;exact⟨eF,bB⟩
             rw [if_neg c18] at H;(exact absurd H (by simp))
            rw [if_neg c17] at H;(exact absurd H (by simp))
           rw [if_neg c16] at H;(exact absurd H (by simp))
          rw [if_neg c12] at H;have c12b0:decide ((bt a0 x9_1) < 128)=false:=decide_eq_false c12;clear c12;have H':=Aside0.mk H;clear H;(have p10:0≤(x9_1:Int):=of_decide_eq_true (by first|(with_reducible assumption)|assumption));(have q10:x9_1 < (a0.size:Int):=of_decide_eq_true (by first|(with_reducible assumption)|assumption));have hx10:=bt_at a0 x9_1;replace p10:=eq_true p10;replace q10:=eq_true q10;(have p11:0≤(x9_1:Int):=of_decide_eq_true (by first|(with_reducible assumption)|assumption));(have q11:x9_1 < (a0.size:Int):=of_decide_eq_true (by first|(with_reducible assumption)|assumption));have hx11:=bt_at a0 x9_1;replace p11:=eq_true p11;replace q11:=eq_true q11;go_wp2;go_roundg kj4;(case measure=>have:=HK1.out;have:=HJ4.out;omega);(case rel=>exact⟨(wrap64 (x7_1+(wrap64 ((Int.tmod (wrap64 (bt a0 x9_1)) 128) * x8_1)))),(wrap64 (x8_1 * 128)),(wrap64 (x9_1+1)),rS,rS,rS,H',⟨by have:=HK1.out;have:=HJ4.out;omega⟩,⟨bB⟩⟩)
         rw [if_neg c9] at H;(exact absurd H (by simp))
        rw [if_neg c8] at H;(exact absurd H (by simp))
       replace c7:=Bool.eq_false_iff.mpr c7;subst c7;rw [if_neg (show ¬ (false=true) by decide)] at H;(try dsimp only at H);simp only [oI,pI] at H;obtain⟨rfl,rfl,rfl⟩:=H;go_wp2;go_ret3;exact⟨eF,bB⟩
  replace c4:=Bool.eq_false_iff.mpr c4;subst c4;rw [if_neg (show ¬ (false=true) by decide)] at H;(try dsimp only at H);simp only [oI,pI] at H;obtain⟨rfl,rfl,rfl⟩:=H;go_enter Try.func94,Try.ntmps94;(go_wp2_with (first|((with_reducible refine gC 64 ?_);refine gL (some 13) Try.func64 #[.int .i64 a1, .int .i64 0, .int .i64 (a0.size:Int)] ?_;(with_reducible refine (spec_l01In.calls a1 0 (a0.size:Int) false _ A3.out).mono ?_);rintro e w' ⟨rfl,⟨nd,rfl⟩⟩;refine⟨_,rfl,?_⟩)));go_ret3;exact⟨eF,bB⟩

def spec_ReadShort.f (k:Nat) (a0:ByteArray) (a1:Int):Option (ByteArray×Int×Bool):=(spec_ReadVar.f k a0 a1).bind fun bt129=>(if bt129.2.2=true then (if bt129.1 > 20000 then (some ((⟨#[]⟩:ByteArray),0,false)) else (if bt129.1 > (wrap64 ((a0.size:Int) - bt129.2.1)) then (some ((⟨#[]⟩:ByteArray),0,false)) else (if 0≤bt129.2.1 then (if bt129.2.1≤(wrap64 (bt129.2.1+bt129.1)) then (if (wrap64 (bt129.2.1+bt129.1))≤(a0.size:Int) then (some (a0.extract (bt129.2.1:Int).toNat ((wrap64 (bt129.2.1+bt129.1)):Int).toNat,wrap64 (bt129.2.1+bt129.1),true)) else (none)) else (none)) else (none)))) else (some ((⟨#[]⟩:ByteArray),0,false)))
theorem spec_ReadShort.mono:∀ a0 a1 k,LeO (spec_ReadShort.f k a0 a1) (spec_ReadShort.f (k+1) a0 a1):=by
  intro a0 a1 k;unfold spec_ReadShort.f;(repeat' (with_reducible first|apply spec_ReadVar.mono|exact LeO.refl _|exact LeO.none _|refine LeO.ite ?_ ?_|refine LeO.bind ?_ (fun _=>?_)))
set_option maxHeartbeats 8000000 in
set_option maxRecDepth 100000 in
theorem spec_ReadShort.calls (k:Nat) (a0:ByteArray) (a1:Int) (r1:ByteArray) (r2:Int) (r3:Bool) (w:World) (h:spec_ReadShort.f k a0 a1=some (r1,r2,r3)) :
    Calls Try.prog 66 #[.string a0, .int .i64 a1] w fun e w'=>e=.returned (.tuple #[.string r1, .int .i64 r2, .bool r3])∧Below w.heap.size w w':=by
  have HB:=Aside0.mk (Below.refl w.heap.size w);have H:=h;clear h;unfold spec_ReadShort.f at H;replace H:=oB H;obtain⟨⟨t129,t130,t131⟩,A30,H⟩:=H;(try dsimp only at H);have A3:=Aside0.mk A30;clear A30;by_cases c4:t131=true
  ·
   subst c4;rw [if_pos rfl] at H;(try dsimp only at H);by_cases c5:t129 > 20000
   · rw [if_pos c5] at H;have c5b0:decide (20000 < t129)=true:=decide_eq_true c5;clear c5;simp only [oI,pI] at H;obtain⟨rfl,rfl,rfl⟩:=H;go_enter Try.func66,Try.ntmps66;(go_wp2_with (first|((with_reducible refine gC 94 ?_);refine gL (some 13) Try.func94 #[.string a0, .int .i64 a1] ?_;(with_reducible refine (spec_ReadVar.calls k a0 a1 t129 t130 true _ A3.out).mono ?_);rintro e w6 ⟨rfl,hb⟩;refine⟨_,rfl,?_⟩;replace HB:=bS hb;(try clear hb))));go_ret3;exact⟨eF,bB⟩
   rw [if_neg c5] at H;have c5b0:decide (20000 < t129)=false:=decide_eq_false c5;clear c5;by_cases c7:t129 > (wrap64 ((a0.size:Int) - t130))
   · rw [if_pos c7] at H;have c7b0:decide ((wrap64 ((a0.size:Int) - t130)) < t129)=true:=decide_eq_true c7;clear c7;simp only [oI,pI] at H;obtain⟨rfl,rfl,rfl⟩:=H;go_enter Try.func66,Try.ntmps66;(go_wp2_with (first|((with_reducible refine gC 94 ?_);refine gL (some 13) Try.func94 #[.string a0, .int .i64 a1] ?_;(with_reducible refine (spec_ReadVar.calls k a0 a1 t129 t130 true _ A3.out).mono ?_);rintro e w8 ⟨rfl,hb⟩;refine⟨_,rfl,?_⟩;replace HB:=bS hb;(try clear hb))));go_ret3;exact⟨eF,bB⟩
   rw [if_neg c7] at H;have c7b0:decide ((wrap64 ((a0.size:Int) - t130)) < t129)=false:=decide_eq_false c7;clear c7;by_cases c9:0≤t130
   ·
    rw [if_pos c9] at H;have c9b0:=eq_true c9;have c9b1:decide (0≤t130)=true:=decide_eq_true c9;clear c9;by_cases c10:t130≤(wrap64 (t130+t129))
    ·
     rw [if_pos c10] at H;have c10b0:=eq_true c10;have c10b1:decide (t130≤(wrap64 (t130+t129)))=true:=decide_eq_true c10;by_cases c11:(wrap64 (t130+t129))≤(a0.size:Int)
     · rw [if_pos c11] at H;have c11b0:=eq_true c11;have c11b1:decide ((wrap64 (t130+t129))≤(a0.size:Int))=true:=decide_eq_true c11;simp only [oI,pI] at H;obtain⟨rfl,rfl,rfl⟩:=H;go_enter Try.func66,Try.ntmps66;(go_wp2_with (first|((with_reducible refine gC 94 ?_);refine gL (some 13) Try.func94 #[.string a0, .int .i64 a1] ?_;(with_reducible refine (spec_ReadVar.calls k a0 a1 t129 t130 true _ A3.out).mono ?_);rintro e w12 ⟨rfl,hb⟩;refine⟨_,rfl,?_⟩;replace HB:=bS hb;(try clear hb))));go_ret3;exact⟨eF,bB⟩
     rw [if_neg c11] at H;(exact absurd H (by simp))
    rw [if_neg c10] at H;(exact absurd H (by simp))
   rw [if_neg c9] at H;(exact absurd H (by simp))
  replace c4:=Bool.eq_false_iff.mpr c4;subst c4;rw [if_neg (show ¬ (false=true) by decide)] at H;(try dsimp only at H);simp only [oI,pI] at H;obtain⟨rfl,rfl,rfl⟩:=H;go_enter Try.func66,Try.ntmps66;(go_wp2_with (first|((with_reducible refine gC 94 ?_);refine gL (some 13) Try.func94 #[.string a0, .int .i64 a1] ?_;(with_reducible refine (spec_ReadVar.calls k a0 a1 t129 t130 false _ A3.out).mono ?_);rintro e w13 ⟨rfl,hb⟩;refine⟨_,rfl,?_⟩;replace HB:=bS hb;(try clear hb))));go_ret3;exact⟨eF,bB⟩

end Go.Proofs.Ytjnghaajmdaggaa.QFnSwitches
