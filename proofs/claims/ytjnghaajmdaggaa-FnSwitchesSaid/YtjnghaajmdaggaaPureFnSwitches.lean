/- The law FnSwitches answers true at every draw. Conditions: the draw's length as the row gives it. -/
import Derived.Test.YtjnghaajmdaggaaQFnSwitchesx27
import Derived.Test.YtjnghaajmdaggaaAid
namespace Go.Proofs.Ytjnghaajmdaggaa.QFnSwitches
open Go.RowKit Go.Proofs.YtjnghaajmdaggaaW.PrintWords Go.Proofs.YtjnghaajmdaggaaW.PrintLast Go.Proofs.Ytjnghaajmdaggaa.Aid
set_option linter.unusedVariables false
abbrev IPut:=S78
theorem within_val (a b c:Int):impl_within.f a b c=some (decide (b≤a∧a≤c)):=by
  unfold impl_within.f
  by_cases h:a≥b
  · rw [if_pos h];congr 1;simp;intro;exact h
  · rw [if_neg h];congr 1;simp;intro h2;omega
theorem in_val (a b c:Int):spec_l01In.f a b c=some (decide (b≤a∧a≤c)):=by
  unfold spec_l01In.f
  by_cases h:a≥b
  · rw [if_pos h];congr 1;simp;intro;exact h
  · rw [if_neg h];congr 1;simp;intro h2;omega

/-! a sector is read -/
def lastPut (C:List IPut) (i:Int) (d:ByteArray):ByteArray:=C.foldl (fun t p=>if p.f0=i then p.f1 else t) d
def readM (S:List ByteArray) (C:List IPut) (i:Int):ByteArray×Bool:=if 0≤i∧i≤(S.length:Int) - 1 then (lastPut C i (S.getD i.toNat ByteArray.empty),true) else ((⟨#[]⟩:ByteArray),false)
theorem impl_read0 (C:List IPut) (i:Int) (hC:C.length≤1099511627776):∀ (rest pre:List IPut) (d:ByteArray),C=pre++rest →
    Ev (fun k=>impl_ReadSector.l0 k i d C (C.length:Int) (pre.length:Int)) (lastPut rest i d,true):=by
  intro rest
  induction rest with
  | nil =>
    intro pre d e
    refine ev_step ?_
    simp only [impl_ReadSector.l0]
    exact ev_neg (by rw [e];simp) (Ev.now _)
  | cons p rest ih =>
    intro pre d e
    have hg:rd_T78 C (pre.length:Int)=p:=by unfold rd_T78;rw [Int.toNat_natCast,e,getD_mid]
    have hlt:(pre.length:Int) < (C.length:Int):=by rw [e];exact len_mid _ _ _
    refine ev_step ?_
    simp only [impl_ReadSector.l0]
    rw [hg,next64 _ (by omega)]
    refine ev_pos hlt (ev_pos (by omega) (ev_pos hlt ?_))
    by_cases c:p.f0=i
    · have h:=ih (pre ++ [p]) p.f1 (by simp [e])
      rw [List.length_append,List.length_singleton] at h
      refine ev_pos c (ev_eq h ?_)
      unfold lastPut
      rw [List.foldl_cons,if_pos c]
    · have h:=ih (pre ++ [p]) d (by simp [e])
      rw [List.length_append,List.length_singleton] at h
      refine ev_neg c (ev_eq h ?_)
      unfold lastPut
      rw [List.foldl_cons,if_neg c]
theorem impl_read (S:List ByteArray) (C:List IPut) (i:Int) (hS:S.length≤1099511627776) (hC:C.length≤1099511627776):Ev (fun k=>impl_ReadSector.f k S C i) (readM S C i):=by
  unfold impl_ReadSector.f readM
  rw [w64 (x:=(S.length:Int) - 1) (by omega) (by omega)]
  refine ev_cbind (within_val _ _ _) ?_
  by_cases h:0≤i∧i≤(S.length:Int) - 1
  · rw [decide_eq_true h,if_pos h]
    exact ev_pos rfl (ev_pos h.1 (ev_pos (by omega) (impl_read0 C i hC C [] _ rfl)))
  · rw [decide_eq_false h,if_neg h]
    exact ev_neg (by simp) (Ev.now _)
theorem spec_read0 (S:List ByteArray) (C:List IPut) (i:Int) (hi:0≤i) (hi2:i < (S.length:Int)) (hC:C.length≤1099511627776):∀ (n:Nat),n≤C.length →
    Ev (fun k=>spec_ReadSector.l0 k i ((n:Int) - 1) S C) (lastPut (C.take n) i (S.getD i.toNat ByteArray.empty),true):=by
  intro n
  induction n with
  | zero =>
    intro _
    refine ev_step ?_
    simp only [spec_ReadSector.l0]
    exact ev_neg (by omega) (ev_pos hi (ev_pos hi2 (Ev.now _)))
  | succ n ih =>
    intro hn
    have h:=ih (by omega)
    have e:((n+1:Nat):Int) - 1=(n:Int):=by omega
    refine ev_step ?_
    simp only [spec_ReadSector.l0]
    rw [e,w64 (x:=(n:Int) - 1) (by omega) (by omega)]
    have hg:rd_T78 C (n:Int)=C[n]'(by omega):=by unfold rd_T78;rw [Int.toNat_natCast,List.getD_eq_getElem?_getD,List.getElem?_eq_getElem (by omega)];rfl
    rw [hg]
    have ht:C.take (n+1)=C.take n ++ [C[n]'(by omega)]:=by rw [List.take_succ_eq_append_getElem (by omega)]
    refine ev_pos (by omega) (ev_pos (by omega) (ev_pos (by omega) ?_))
    rw [ht]
    unfold lastPut
    rw [List.foldl_append]
    simp only [List.foldl_cons,List.foldl_nil]
    by_cases c:(C[n]'(by omega)).f0=i
    · rw [if_pos c]
      exact ev_pos c (Ev.now _)
    · rw [if_neg c]
      exact ev_neg c h
theorem spec_read (S:List ByteArray) (C:List IPut) (i:Int) (hS:S.length≤1099511627776) (hC:C.length≤1099511627776):Ev (fun k=>spec_ReadSector.f k S C i) (readM S C i):=by
  unfold spec_ReadSector.f readM
  rw [w64 (x:=(S.length:Int) - 1) (by omega) (by omega),w64 (x:=(C.length:Int) - 1) (by omega) (by omega)]
  refine ev_cbind (in_val _ _ _) ?_
  by_cases h:0≤i∧i≤(S.length:Int) - 1
  · rw [decide_eq_true h,if_pos h]
    refine ev_pos rfl (ev_eq (spec_read0 S C i h.1 (by omega) hC C.length (Nat.le_refl _)) ?_)
    rw [List.take_length]
  · rw [decide_eq_false h,if_neg h]
    exact ev_neg (by simp) (Ev.now _)

/-! a disk is right -/
def goodP (n:Nat) (p:IPut):Bool:=decide ((0≤p.f0∧p.f0≤(n:Int) - 1)∧(p.f1.size:Int)=64)
def goodS (s:ByteArray):Bool:=decide ((s.size:Int)=64)
def lensOk (S:List ByteArray) (C:List IPut):Bool:=decide ((1:Int)≤S.length∧(S.length:Int)≤100) && decide ((C.length:Int)≤60)
def diskOkM (S:List ByteArray) (C:List IPut):Bool:=S.all goodS && (C.all (goodP S.length) && lensOk S C)
theorem diskOk_iff (S:List ByteArray) (C:List IPut):diskOkM S C=true ↔ (1≤S.length∧S.length≤100∧C.length≤60∧(∀ s ∈ S,s.size=64)∧∀ p ∈ C,0≤p.f0∧p.f0 < (S.length:Int)∧p.f1.size=64):=by
  unfold diskOkM lensOk
  simp only [Bool.and_eq_true,List.all_eq_true,goodS,goodP,decide_eq_true_eq]
  constructor
  · rintro⟨h1,h2,⟨h3,h4⟩,h5⟩
    refine⟨by omega,by omega,by omega,fun s hs=>by have:=h1 s hs;omega,fun p hp=>?_⟩
    have:=h2 p hp
    omega
  · rintro⟨h1,h2,h3,h4,h5⟩
    refine⟨fun s hs=>by have:=h4 s hs;omega,fun p hp=>?_,⟨by omega,by omega⟩,by omega⟩
    have:=h5 p hp
    omega
theorem impl_ok1 (S:List ByteArray) (C:List IPut) (hS:S.length≤1099511627776) (hC:C.length≤1099511627776):∀ (rest pre:List IPut),C=pre++rest →
    Ev (fun k=>impl_DiskOk.l1 k C (C.length:Int) (pre.length:Int) S C) (rest.all (goodP S.length) && lensOk S C):=by
  intro rest
  induction rest with
  | nil =>
    intro pre e
    refine ev_step ?_
    simp only [impl_DiskOk.l1]
    refine ev_neg (by rw [e];simp) (ev_cbind (within_val _ _ _) ?_)
    unfold lensOk
    by_cases h:(1:Int)≤S.length∧(S.length:Int)≤100
    · rw [decide_eq_true h];exact ev_pos rfl (ev_now (by simp))
    · rw [decide_eq_false h];exact ev_neg (by simp) (ev_now (by simp))
  | cons p rest ih =>
    intro pre e
    have hg:rd_T78 C (pre.length:Int)=p:=by unfold rd_T78;rw [Int.toNat_natCast,e,getD_mid]
    have hlt:(pre.length:Int) < (C.length:Int):=by rw [e];exact len_mid _ _ _
    have h:=ih (pre ++ [p]) (by simp [e])
    rw [List.length_append,List.length_singleton] at h
    refine ev_step ?_
    simp only [impl_DiskOk.l1]
    rw [hg,next64 _ (by omega),w64 (x:=(S.length:Int) - 1) (by omega) (by omega)]
    refine ev_pos hlt (ev_pos (by omega) (ev_pos hlt (ev_cbind (within_val _ _ _) ?_)))
    rw [List.all_cons]
    unfold goodP
    by_cases h1:0≤p.f0∧p.f0≤(S.length:Int) - 1
    · rw [decide_eq_true h1]
      by_cases h2:(p.f1.size:Int)=64
      · refine ev_pos rfl (ev_pos h2 (ev_eq h ?_))
        rw [decide_eq_true (⟨h1,h2⟩:(0≤p.f0∧p.f0≤(S.length:Int) - 1)∧(p.f1.size:Int)=64),Bool.true_and]
        rfl
      · refine ev_pos rfl (ev_neg h2 (ev_now ?_))
        rw [decide_eq_false (fun h=>h2 h.2)];rfl
    · rw [decide_eq_false h1]
      refine ev_neg (by simp) (ev_now ?_)
      rw [decide_eq_false (fun h=>h1 h.1)];rfl
theorem impl_ok0 (S:List ByteArray) (C:List IPut) (hS:S.length≤1099511627776) (hC:C.length≤1099511627776):∀ (rest pre:List ByteArray),S=pre++rest →
    Ev (fun k=>impl_DiskOk.l0 k S (S.length:Int) (pre.length:Int) S C) (rest.all goodS && (C.all (goodP S.length) && lensOk S C)):=by
  intro rest
  induction rest with
  | nil =>
    intro pre e
    refine ev_step ?_
    simp only [impl_DiskOk.l0]
    refine ev_neg (by rw [e];simp) (ev_eq (impl_ok1 S C hS hC C [] rfl) ?_)
    rw [List.all_nil,Bool.true_and]
  | cons s rest ih =>
    intro pre e
    have hg:rdOf ByteArray.empty S (pre.length:Int)=s:=by unfold rdOf;rw [Int.toNat_natCast,e,getD_mid]
    have hlt:(pre.length:Int) < (S.length:Int):=by rw [e];exact len_mid _ _ _
    have h:=ih (pre ++ [s]) (by simp [e])
    rw [List.length_append,List.length_singleton] at h
    refine ev_step ?_
    simp only [impl_DiskOk.l0]
    rw [hg,next64 _ (by omega)]
    refine ev_pos hlt (ev_pos (by omega) (ev_pos hlt ?_))
    rw [List.all_cons]
    unfold goodS
    by_cases h2:(s.size:Int)=64
    · refine ev_pos h2 (ev_eq h ?_)
      rw [decide_eq_true h2,Bool.true_and]
      rfl
    · refine ev_neg h2 (ev_now ?_)
      rw [decide_eq_false h2];rfl
theorem impl_diskOk (S:List ByteArray) (C:List IPut) (hS:S.length≤1099511627776) (hC:C.length≤1099511627776):Ev (fun k=>impl_DiskOk.f k S C) (diskOkM S C):=impl_ok0 S C hS hC S [] rfl
theorem spec_ok1 (S:List ByteArray) (C:List IPut) (hS:S.length≤1099511627776) (hC:C.length≤1099511627776):∀ (rest pre:List IPut),C=pre++rest →
    Ev (fun k=>spec_DiskOk.l1 k (pre.length:Int) S C) (rest.all (goodP S.length)):=by
  intro rest
  induction rest with
  | nil =>
    intro pre e
    refine ev_step ?_
    simp only [spec_DiskOk.l1]
    exact ev_neg (by rw [e];simp) (Ev.now _)
  | cons p rest ih =>
    intro pre e
    have hg:rd_T78 C (pre.length:Int)=p:=by unfold rd_T78;rw [Int.toNat_natCast,e,getD_mid]
    have hlt:(pre.length:Int) < (C.length:Int):=by rw [e];exact len_mid _ _ _
    have h:=ih (pre ++ [p]) (by simp [e])
    rw [List.length_append,List.length_singleton] at h
    refine ev_step ?_
    simp only [spec_DiskOk.l1]
    rw [hg,next64 _ (by omega),w64 (x:=(S.length:Int) - 1) (by omega) (by omega)]
    refine ev_pos hlt (ev_pos (by omega) (ev_cbind (in_val _ _ _) ?_))
    rw [List.all_cons]
    unfold goodP
    by_cases h1:0≤p.f0∧p.f0≤(S.length:Int) - 1
    · rw [decide_eq_true h1]
      by_cases h2:(p.f1.size:Int)=64
      · refine ev_pos rfl (ev_pos h2 (ev_eq h ?_))
        rw [decide_eq_true (⟨h1,h2⟩:(0≤p.f0∧p.f0≤(S.length:Int) - 1)∧(p.f1.size:Int)=64),Bool.true_and]
        rfl
      · refine ev_pos rfl (ev_neg h2 (ev_now ?_))
        rw [decide_eq_false (fun h=>h2 h.2)];rfl
    · rw [decide_eq_false h1]
      refine ev_neg (by simp) (ev_now ?_)
      rw [decide_eq_false (fun h=>h1 h.1)];rfl
theorem spec_ok0 (S:List ByteArray) (C:List IPut) (hS:S.length≤1099511627776) (hC:C.length≤1099511627776):∀ (rest pre:List ByteArray),S=pre++rest →
    Ev (fun k=>spec_DiskOk.l0 k (pre.length:Int) S C) (rest.all goodS && C.all (goodP S.length)):=by
  intro rest
  induction rest with
  | nil =>
    intro pre e
    refine ev_step ?_
    simp only [spec_DiskOk.l0]
    refine ev_neg (by rw [e];simp) (ev_eq (spec_ok1 S C hS hC C [] rfl) ?_)
    rw [List.all_nil,Bool.true_and]
  | cons s rest ih =>
    intro pre e
    have hg:rdOf ByteArray.empty S (pre.length:Int)=s:=by unfold rdOf;rw [Int.toNat_natCast,e,getD_mid]
    have hlt:(pre.length:Int) < (S.length:Int):=by rw [e];exact len_mid _ _ _
    have h:=ih (pre ++ [s]) (by simp [e])
    rw [List.length_append,List.length_singleton] at h
    refine ev_step ?_
    simp only [spec_DiskOk.l0]
    rw [hg,next64 _ (by omega)]
    refine ev_pos hlt (ev_pos (by omega) ?_)
    rw [List.all_cons]
    unfold goodS
    by_cases h2:(s.size:Int)=64
    · refine ev_pos h2 (ev_eq h ?_)
      rw [decide_eq_true h2,Bool.true_and]
      rfl
    · refine ev_neg h2 (ev_now ?_)
      rw [decide_eq_false h2];rfl
theorem spec_diskOk (S:List ByteArray) (C:List IPut) (hS:S.length≤1099511627776) (hC:C.length≤1099511627776):Ev (fun k=>spec_DiskOk.f k S C) (diskOkM S C):=by
  unfold spec_DiskOk.f diskOkM lensOk
  refine ev_cbind (in_val _ _ _) ?_
  by_cases h1:(1:Int)≤S.length∧(S.length:Int)≤100
  · rw [decide_eq_true h1]
    refine ev_pos rfl (ev_step ?_)
    simp only [spec_DiskOk.j0]
    by_cases h2:(C.length:Int) > 60
    · rw [decide_eq_true h2]
      refine ev_pos rfl (ev_now ?_)
      rw [decide_eq_false (show ¬ (C.length:Int)≤60 by omega)];simp
    · rw [decide_eq_false h2]
      refine ev_neg (by simp) (ev_eq (spec_ok0 S C hS hC S [] rfl) ?_)
      rw [decide_eq_true (show (C.length:Int)≤60 by omega)];simp
  · rw [decide_eq_false h1]
    refine ev_neg (by simp) (ev_step ?_)
    simp only [spec_DiskOk.j0]
    exact ev_pos (by first|rfl|trivial) (ev_now (by simp))

theorem impl_copy (S:List ByteArray) (C:List IPut) (hS:S.length≤1099511627776) (hC:C.length≤1099511627776):impl_copyDisk.f S C=some (S,C):=by
  unfold impl_copyDisk.f
  rw [if_pos (by simp;omega),if_pos (by simp;omega),List.nil_append,List.nil_append]
theorem spec_copy (S:List ByteArray) (C:List IPut) (hS:S.length≤1099511627776) (hC:C.length≤1099511627776):spec_l03Copy.f S C=some (S,C):=by
  unfold spec_l03Copy.f
  simp only [Option.bind_some]
  rw [if_pos (by simp;omega),if_pos (by simp;omega),List.nil_append,List.nil_append]

def writeM (S:List ByteArray) (C:List IPut) (i:Int) (s:ByteArray):List ByteArray×List IPut×Bool :=
  if diskOkM S (C ++ [(⟨i,s⟩:IPut)])=true then (S,C ++ [(⟨i,s⟩:IPut)],true) else (S,C,false)
theorem impl_write (S:List ByteArray) (C:List IPut) (i:Int) (s:ByteArray) (hS:S.length≤1099511627775) (hC:C.length≤1099511627775):Ev (fun k=>impl_WriteSector.f k S C i s) (writeM S C i s):=by
  unfold impl_WriteSector.f writeM
  have a:=impl_diskOk S (C ++ [(⟨i,s⟩:IPut)]) (by omega) (by simp;omega)
  have c:=impl_copy S C (by omega) (by omega)
  refine ev_cbind c (ev_pos (by show C.length < _;omega) (ev_cbind rfl (ev_bind a (ev_if (fun h=>?_) (fun h=>?_)))))
  · rw [if_pos h];exact Ev.now _
  · rw [if_neg h];exact ev_cbind c (Ev.now _)
theorem diskOk_snoc (S:List ByteArray) (C:List IPut) (i:Int) (s:ByteArray):diskOkM S (C ++ [(⟨i,s⟩:IPut)])=true ↔ (diskOkM S C=true∧(0≤i∧i≤(S.length:Int) - 1)∧(s.size:Int)=64∧¬ (C.length:Int)≥60):=by
  rw [diskOk_iff,diskOk_iff]
  constructor
  · rintro⟨h1,h2,h3,h4,h5⟩
    rw [List.length_append,List.length_singleton] at h3
    have h6:0≤i∧i < (S.length:Int)∧s.size=64:=h5 ⟨i,s⟩ (by simp)
    exact⟨⟨h1,h2,by omega,h4,fun p hp=>h5 p (by simp [hp])⟩,⟨by omega,by omega⟩,by omega,by omega⟩
  · rintro⟨⟨h1,h2,h3,h4,h5⟩,h6,h7,h8⟩
    refine⟨h1,h2,by rw [List.length_append,List.length_singleton];omega,h4,fun p hp=>?_⟩
    rcases List.mem_append.1 hp with hp|hp
    · exact h5 p hp
    · rw [List.mem_singleton] at hp
      subst hp
      exact⟨h6.1,by show i < _;omega,by show s.size=64;omega⟩
theorem spec_write (S:List ByteArray) (C:List IPut) (i:Int) (s:ByteArray) (hS:S.length≤1099511627775) (hC:C.length≤1099511627775):Ev (fun k=>spec_WriteSector.f k S C i s) (writeM S C i s):=by
  unfold spec_WriteSector.f writeM
  have a:=spec_diskOk S C (by omega) (by omega)
  have c:=spec_copy S C (by omega) (by omega)
  have e:=diskOk_snoc S C i s
  rw [w64 (x:=(S.length:Int) - 1) (by omega) (by omega)]
  refine ev_cbind c (ev_bind a (ev_if (fun h1=>ev_cbind (in_val _ _ _) (ev_if (fun h2=>?_) (fun h2=>?_))) (fun h1=>?_)))
  · rw [decide_eq_true_eq] at h2
    refine ev_if (fun h3=>ev_if (fun h4=>?_) (fun h4=>?_)) (fun h3=>?_)
    · rw [if_neg (fun h=>(e.1 h).2.2.2 h4)];exact Ev.now _
    · rw [if_pos (e.2 ⟨h1,h2,h3,h4⟩)]
      exact ev_pos (by show C.length < _;omega) (Ev.now _)
    · rw [if_neg (fun h=>h3 (e.1 h).2.2.1)];exact Ev.now _
  · rw [if_neg (fun h=>h2 (decide_eq_true (e.1 h).2.1))];exact Ev.now _
  · rw [if_neg (fun h=>h1 (e.1 h).1)];exact Ev.now _

def putAll (S:List ByteArray) (C:List IPut):List ByteArray:=C.foldl (fun s p=>s.set p.f0.toNat p.f1) S
def flushM (S:List ByteArray) (C:List IPut):List ByteArray×List IPut:=if diskOkM S C=true then (putAll S C,[]) else (S,C)
theorem impl_flush0 (C:List IPut) (hC:C.length≤1099511627776) (n:Nat) (hg:∀ p ∈ C,0≤p.f0∧p.f0 < (n:Int)) (D:List IPut):∀ (rest pre:List IPut) (S:List ByteArray),C=pre++rest→S.length=n →
    Ev (fun k=>impl_FlushDisk.l0 k C (C.length:Int) (pre.length:Int) S D) (putAll S rest,([]:List IPut)):=by
  intro rest
  induction rest with
  | nil =>
    intro pre S e hS
    refine ev_step ?_
    simp only [impl_FlushDisk.l0]
    exact ev_neg (by rw [e];simp) (Ev.now _)
  | cons p rest ih =>
    intro pre S e hS
    have hg2:rd_T78 C (pre.length:Int)=p:=by unfold rd_T78;rw [Int.toNat_natCast,e,getD_mid]
    have hlt:(pre.length:Int) < (C.length:Int):=by rw [e];exact len_mid _ _ _
    have hp:=hg p (by rw [e];simp)
    have h:=ih (pre ++ [p]) (S.set p.f0.toNat p.f1) (by simp [e]) (by simp [hS])
    rw [List.length_append,List.length_singleton] at h
    refine ev_step ?_
    simp only [impl_FlushDisk.l0]
    rw [hg2,next64 _ (by omega)]
    exact ev_pos hlt (ev_pos (by omega) (ev_pos hlt (ev_pos hp.1 (ev_pos (by rw [hS];exact hp.2) h))))
theorem impl_flush (S:List ByteArray) (C:List IPut) (hS:S.length≤1099511627776) (hC:C.length≤1099511627776):Ev (fun k=>impl_FlushDisk.f k S C) (flushM S C):=by
  unfold impl_FlushDisk.f flushM
  refine ev_cbind (impl_copy S C hS hC) (ev_bind (impl_diskOk S C hS hC) (ev_if (fun h=>?_) (fun h=>?_)))
  · rw [if_pos h]
    have hg:=(diskOk_iff S C).1 h
    exact impl_flush0 C hC S.length (fun p hp=>⟨(hg.2.2.2.2 p hp).1,(hg.2.2.2.2 p hp).2.1⟩) C C [] S rfl rfl
  · rw [if_neg h];exact Ev.now _
theorem spec_flush0 (C:List IPut) (hC:C.length≤1099511627776) (n:Nat) (hg:∀ p ∈ C,0≤p.f0∧p.f0 < (n:Int)) (S0:List ByteArray) (D:List IPut):∀ (rest pre:List IPut) (S:List ByteArray),C=pre++rest→S.length=n →
    Ev (fun k=>spec_FlushDisk.l0 k (pre.length:Int) S0 C S D) (putAll S rest,([]:List IPut)):=by
  intro rest
  induction rest with
  | nil =>
    intro pre S e hS
    refine ev_step ?_
    simp only [spec_FlushDisk.l0]
    exact ev_neg (by rw [e];simp) (Ev.now _)
  | cons p rest ih =>
    intro pre S e hS
    have hg2:rd_T78 C (pre.length:Int)=p:=by unfold rd_T78;rw [Int.toNat_natCast,e,getD_mid]
    have hlt:(pre.length:Int) < (C.length:Int):=by rw [e];exact len_mid _ _ _
    have hp:=hg p (by rw [e];simp)
    have h:=ih (pre ++ [p]) (S.set p.f0.toNat p.f1) (by simp [e]) (by simp [hS])
    rw [List.length_append,List.length_singleton] at h
    refine ev_step ?_
    simp only [spec_FlushDisk.l0]
    rw [hg2,next64 _ (by omega)]
    exact ev_pos hlt (ev_pos (by omega) (ev_pos hp.1 (ev_pos (by rw [hS];exact hp.2) h)))
theorem spec_flush (S:List ByteArray) (C:List IPut) (hS:S.length≤1099511627776) (hC:C.length≤1099511627776):Ev (fun k=>spec_FlushDisk.f k S C) (flushM S C):=by
  unfold spec_FlushDisk.f flushM
  refine ev_cbind (spec_copy S C hS hC) (ev_bind (spec_diskOk S C hS hC) (ev_if (fun h=>?_) (fun h=>?_)))
  · rw [if_pos h]
    have hg:=(diskOk_iff S C).1 h
    exact spec_flush0 C hC S.length (fun p hp=>⟨(hg.2.2.2.2 p hp).1,(hg.2.2.2.2 p hp).2.1⟩) S C C [] S rfl rfl
  · rw [if_neg h];exact Ev.now _
theorem putAll_length (S:List ByteArray) (C:List IPut):(putAll S C).length=S.length:=by
  unfold putAll
  induction C generalizing S with
  | nil=>rfl
  | cons p C ih=>rw [List.foldl_cons,ih];simp
theorem flush_lens (S:List ByteArray) (C:List IPut):(flushM S C).1.length=S.length∧(flushM S C).2.length≤C.length:=by
  unfold flushM
  split
  · exact⟨putAll_length S C,by simp⟩
  · exact⟨rfl,Nat.le_refl _⟩

/-! the first byte of a sector -/
def firstM (S:List ByteArray) (C:List IPut) (i:Int):Int:=if (readM S C i).2=true then (if (readM S C i).1.toList=([]:List UInt8) then 0 else bt (readM S C i).1 0) else 0
theorem size_of_toList {s:ByteArray} (h:¬ s.toList=([]:List UInt8)):0 < s.size:=by
  rcases Nat.eq_zero_or_pos s.size with h0|h0
  · exfalso
    apply h
    have:s=⟨#[]⟩:=by
      apply ByteArray.ext
      exact Array.eq_empty_of_size_eq_zero h0
    subst this
    rw [ByteArray.toList_eq]
  · exact h0
theorem firstM_range (S:List ByteArray) (C:List IPut) (i:Int):0≤firstM S C i∧firstM S C i≤255:=by
  unfold firstM
  split
  · split
    · omega
    · exact bt_range _ _
  · omega
theorem impl_first (S:List ByteArray) (C:List IPut) (i:Int) (hS:S.length≤1099511627776) (hC:C.length≤1099511627776):Ev (fun k=>impl_firstByte.f k S C i) (firstM S C i):=by
  unfold impl_firstByte.f firstM
  refine ev_bind (impl_read S C i hS hC) ?_
  refine ev_if (fun c=>?_) (fun c=>?_)
  · rw [if_pos c]
    refine ev_if (fun c2=>?_) (fun c2=>?_)
    · rw [if_pos c2];exact Ev.now _
    · rw [if_neg c2]
      have h0:=size_of_toList c2
      have:=bt_range (readM S C i).1 0
      exact ev_pos (by omega) (ev_now (w64 (by omega) (by omega)))
  · rw [if_neg c];exact Ev.now _
theorem spec_first (S:List ByteArray) (C:List IPut) (i:Int) (hS:S.length≤1099511627776) (hC:C.length≤1099511627776):Ev (fun k=>spec_l04Byte.f k S C i) (firstM S C i):=by
  unfold spec_l04Byte.f firstM
  refine ev_bind (spec_read S C i hS hC) ?_
  refine ev_if (fun c=>?_) (fun c=>?_)
  · rw [if_pos c]
    refine ev_if (fun c2=>?_) (fun c2=>?_)
    · rw [if_pos c2];exact Ev.now _
    · rw [if_neg c2]
      have h0:=size_of_toList c2
      have:=bt_range (readM S C i).1 0
      exact ev_pos (by omega) (ev_now (w64 (by omega) (by omega)))
  · rw [if_neg c];exact Ev.now _

def areaFirstM (a:Int):Int:=if 0≤a∧a≤1 then 1+a * 48 else 0
theorem impl_areaFirst (a:Int):impl_AreaFirst.f a=some (areaFirstM a):=by
  unfold impl_AreaFirst.f impl_isArea.f areaFirstM
  by_cases h0:a=0
  · subst h0;simp [wrap64]
  · by_cases h1:a=1
    · subst h1;simp [wrap64]
    · rw [if_neg h0,if_neg (show ¬ (0≤a∧a≤1) by omega)];simp [h1]
theorem spec_areaFirst (a:Int):spec_AreaFirst.f a=some (areaFirstM a):=by
  unfold spec_AreaFirst.f areaFirstM
  rw [in_val]
  by_cases h:0≤a∧a≤1
  · rw [decide_eq_true h,if_pos h]
    simp only [Option.bind_some,if_true]
    rw [w64 (x:=a * 48) (by omega) (by omega),w64 (by omega) (by omega)]
  · rw [decide_eq_false h,if_neg h];simp
def countM (S:List ByteArray) (C:List IPut) (a:Int):Int:=if 0≤a∧a≤1 then firstM S C (areaFirstM a) else 0
theorem impl_count (S:List ByteArray) (C:List IPut) (a:Int) (hS:S.length≤1099511627776) (hC:C.length≤1099511627776):Ev (fun k=>impl_CountIn.f k S C a) (countM S C a):=by
  unfold impl_CountIn.f countM
  by_cases h:0≤a∧a≤1
  · have e:impl_isArea.f a=some true:=by
      unfold impl_isArea.f
      by_cases h0:a=0
      · rw [if_pos h0]
      · rw [if_neg h0];simp;omega
    rw [if_pos h]
    exact ev_cbind e (ev_pos rfl (ev_cbind (impl_areaFirst a) (ev_bind (impl_first S C _ hS hC) (Ev.now _))))
  · have e:impl_isArea.f a=some false:=by
      unfold impl_isArea.f
      rw [if_neg (by omega)];simp;omega
    rw [if_neg h]
    exact ev_cbind e (ev_neg (by simp) (Ev.now _))
theorem spec_count (S:List ByteArray) (C:List IPut) (a:Int) (hS:S.length≤1099511627776) (hC:C.length≤1099511627776):Ev (fun k=>spec_CountIn.f k S C a) (countM S C a):=by
  unfold spec_CountIn.f countM
  refine ev_cbind (in_val _ _ _) ?_
  by_cases h:0≤a∧a≤1
  · rw [decide_eq_true h,if_pos h]
    exact ev_pos rfl (ev_cbind (spec_areaFirst a) (ev_bind (spec_first S C _ hS hC) (Ev.now _)))
  · rw [decide_eq_false h,if_neg h]
    exact ev_neg (by simp) (Ev.now _)

/-! sectors, one behind the other -/
def secText (S:List ByteArray) (C:List IPut) (f:Int):Nat→Int→ByteArray→ByteArray×Bool
  | 0,_,acc=>(acc,true)
  | d+1,i,acc=>if (readM S C (f+i)).2=true then secText S C f d (i+1) (acc++(readM S C (f+i)).1) else ((⟨#[]⟩:ByteArray),false)
def sectorTextM (S:List ByteArray) (C:List IPut) (f n:Int):ByteArray×Bool:=if 0≤n∧n≤100 then secText S C f n.toNat 0 (⟨#[]⟩:ByteArray) else ((⟨#[]⟩:ByteArray),false)
theorem lastPut_size (C:List IPut) (i:Int) (B:Nat) (hC:∀ p ∈ C,p.f1.size≤B):∀ (d:ByteArray),d.size≤B→(lastPut C i d).size≤B:=by
  unfold lastPut
  induction C with
  | nil=>intro d hd;exact hd
  | cons p C ih =>
    intro d hd
    rw [List.foldl_cons]
    refine ih (fun q hq=>hC q (by simp [hq])) _ ?_
    split
    · exact hC p (by simp)
    · exact hd
theorem readM_size (S:List ByteArray) (C:List IPut) (i:Int) (B:Nat) (hS:∀ s ∈ S,s.size≤B) (hC:∀ p ∈ C,p.f1.size≤B):(readM S C i).1.size≤B:=by
  unfold readM
  split
  · rename_i h
    refine lastPut_size C i B hC _ ?_
    rw [List.getD_eq_getElem?_getD,List.getElem?_eq_getElem (by omega)]
    exact hS _ (List.getElem_mem _)
  · exact Nat.zero_le _
theorem readM_wrap (S:List ByteArray) (C:List IPut) (f i:Int) (hS:S.length≤1099511627776) (h0:0≤i) (h1:i≤100) (hf : -9223372036854775808≤f∧f < 9223372036854775808):readM S C (wrap64 (f+i))=readM S C (f+i):=by
  by_cases h:f+i < 9223372036854775808
  · rw [w64 (by omega) h]
  · have e:wrap64 (f+i)=f+i - 18446744073709551616:=by unfold wrap64;omega
    unfold readM
    rw [e,if_neg (by omega),if_neg (by omega)]
theorem impl_sec0 (S:List ByteArray) (C:List IPut) (f n:Int) (hS:S.length≤1099511627776) (hC:C.length≤1099511627776) (hf : -9223372036854775808≤f∧f < 9223372036854775808) (hn:n≤100) (hs:∀ s ∈ S,s.size≤1048576) (hp:∀ p ∈ C,p.f1.size≤1048576) :
    ∀ (d:Nat) (i:Int) (acc:List Int),0≤i→i+d=n→acc.length≤i.toNat * 1048576→Ev (fun k=>impl_SectorText.l0 k f n acc i S C) (secText S C f d i (strOfNums acc)):=by
  intro d
  induction d with
  | zero =>
    intro i acc h0 h1 h2
    refine ev_step ?_
    simp only [impl_SectorText.l0]
    exact ev_neg (by omega) (Ev.now _)
  | succ d ih =>
    intro i acc h0 h1 h2
    refine ev_step ?_
    simp only [impl_SectorText.l0]
    have hr:=impl_read S C (wrap64 (f+i)) hS hC
    rw [readM_wrap S C f i hS h0 (by omega) hf] at hr
    have hsz:=readM_size S C (f+i) 1048576 hs hp
    have e:wrap64 (i+1)=i+1:=w64 (by omega) (by omega)
    rw [e]
    refine ev_pos (by omega) (ev_bind hr ?_)
    unfold secText
    refine ev_if (fun c=>?_) (fun c=>?_)
    · rw [if_pos c]
      have h:=ih (i+1) (acc++bytesOf (readM S C (f+i)).1) (by omega) (by omega) (by
        have e1:(i+1).toNat=i.toNat+1:=by omega
        rw [List.length_append,bytesOf_length,e1];omega)
      rw [strOfNums_append,strOfNums_bytesOf] at h
      have e2:i.toNat≤100:=by omega
      have e3:i.toNat * 1048576≤100 * 1048576:=Nat.mul_le_mul_right _ e2
      exact ev_pos (by omega) h
    · rw [if_neg c];exact Ev.now _
theorem impl_sectorText (S:List ByteArray) (C:List IPut) (f n:Int) (hS:S.length≤1099511627776) (hC:C.length≤1099511627776) (hf : -9223372036854775808≤f∧f < 9223372036854775808) (hs:∀ s ∈ S,s.size≤1048576) (hp:∀ p ∈ C,p.f1.size≤1048576) :
    Ev (fun k=>impl_SectorText.f k S C f n) (sectorTextM S C f n):=by
  unfold impl_SectorText.f sectorTextM
  refine ev_cbind (within_val _ _ _) ?_
  by_cases h:0≤n∧n≤100
  · rw [decide_eq_true h,if_pos h]
    exact ev_pos rfl (impl_sec0 S C f n hS hC hf h.2 hs hp n.toNat 0 [] (by omega) (by omega) (by simp))
  · rw [decide_eq_false h,if_neg h]
    exact ev_neg (by simp) (Ev.now _)
theorem spec_sec0 (S:List ByteArray) (C:List IPut) (f n:Int) (hS:S.length≤1099511627776) (hC:C.length≤1099511627776) (hf : -9223372036854775808≤f∧f < 9223372036854775808) (hn:n≤100) (hs:∀ s ∈ S,s.size≤1048576) (hp:∀ p ∈ C,p.f1.size≤1048576) :
    ∀ (d:Nat) (i:Int) (acc:ByteArray),0≤i→i+d=n→acc.size≤i.toNat * 1048576→(i=0∨0≤f)→Ev (fun k=>spec_SectorText.l0 k f n acc i S C) (secText S C f d i acc):=by
  intro d
  induction d with
  | zero =>
    intro i acc h0 h1 h2 h3
    refine ev_step ?_
    simp only [spec_SectorText.l0]
    exact ev_neg (by omega) (Ev.now _)
  | succ d ih =>
    intro i acc h0 h1 h2 h3
    refine ev_step ?_
    simp only [spec_SectorText.l0]
    have hr:=spec_read S C (wrap64 (f+i)) hS hC
    rw [readM_wrap S C f i hS h0 (by omega) hf] at hr
    have hsz:=readM_size S C (f+i) 1048576 hs hp
    have e:wrap64 (i+1)=i+1:=w64 (by omega) (by omega)
    refine ev_pos (by omega) ?_
    unfold secText
    have out:(f < 0∨f > (S.length:Int))→¬ (readM S C (f+i)).2=true:=by
      intro ho
      have:¬ (0≤f+i∧f+i≤(S.length:Int) - 1):=by omega
      unfold readM
      rw [if_neg this]
      simp
    by_cases c1:f < 0
    · refine ev_pos c1 (ev_step ?_)
      simp only [spec_SectorText.j1]
      refine ev_pos (by first|rfl|trivial) ?_
      rw [if_neg (out (.inl c1))]
      exact Ev.now _
    · refine ev_neg c1 (ev_step ?_)
      simp only [spec_SectorText.j1]
      by_cases c2:f > (S.length:Int)
      · rw [decide_eq_true c2]
        refine ev_pos (by first|rfl|trivial) ?_
        rw [if_neg (out (.inr c2))]
        exact Ev.now _
      · rw [decide_eq_false c2,e]
        refine ev_neg (by simp) (ev_bind hr (ev_if (fun c=>?_) (fun c=>?_)))
        · rw [if_pos c]
          have h:=ih (i+1) (acc++(readM S C (f+i)).1) (by omega) (by omega) (by
            have e1:(i+1).toNat=i.toNat+1:=by omega
            rw [ByteArray.size_append,e1];omega) (.inr (by omega))
          have e2:i.toNat≤100:=by omega
          have e3:i.toNat * 1048576≤100 * 1048576:=Nat.mul_le_mul_right _ e2
          exact ev_pos (by omega) h
        · rw [if_neg c];exact Ev.now _
theorem spec_sectorText (S:List ByteArray) (C:List IPut) (f n:Int) (hS:S.length≤1099511627776) (hC:C.length≤1099511627776) (hf : -9223372036854775808≤f∧f < 9223372036854775808) (hs:∀ s ∈ S,s.size≤1048576) (hp:∀ p ∈ C,p.f1.size≤1048576) :
    Ev (fun k=>spec_SectorText.f k S C f n) (sectorTextM S C f n):=by
  unfold spec_SectorText.f sectorTextM
  refine ev_cbind (in_val _ _ _) ?_
  by_cases h:0≤n∧n≤100
  · rw [decide_eq_true h,if_pos h]
    exact ev_pos rfl (spec_sec0 S C f n hS hC hf h.2 hs hp n.toNat 0 (⟨#[]⟩:ByteArray) (by omega) (by omega) (by show 0≤_;omega) (.inl rfl))
  · rw [decide_eq_false h,if_neg h]
    exact ev_neg (by simp) (Ev.now _)

/-- A number's bytes, seven bits each. -/
def varL (n:Nat):List Int:=if n > 127 then ((n % 128+128:Nat):Int) :: varL (n / 128) else [(n:Int)]
termination_by n
decreasing_by omega

def varText (n:Int):ByteArray×Bool:=if 0≤n∧n≤1000000000 then (strOfNums (varL n.toNat),true) else ((⟨#[]⟩:ByteArray),false)
theorem spec_var0:∀ (n:Nat) (acc:List Int),acc.length+n < 140737488355000→Ev (fun k=>spec_l01Var.l0 k (n:Int) acc) (strOfNums (acc++varL n)):=by
  intro n
  induction n using Nat.strongRecOn with
  | _ n ih =>
    intro acc hb
    refine ev_step ?_
    simp only [spec_l01Var.l0]
    by_cases h:n > 127
    · refine ev_pos (by omega) (ev_pos (by omega) ?_)
      have e1:wrap64 (Int.tdiv (n:Int) 128)=((n / 128:Nat):Int):=by
        rw [show Int.tdiv (n:Int) 128=((n / 128:Nat):Int) from rfl,w64 (by omega) (by omega)]
      have e2:(wrap64 ((Int.tmod (n:Int) 128)+128)) % 256=((n % 128+128:Nat):Int):=by
        rw [show Int.tmod (n:Int) 128=((n % 128:Nat):Int) from rfl,w64 (by omega) (by omega)];omega
      rw [e1,e2]
      have e3:varL n=((n % 128+128:Nat):Int) :: varL (n / 128):=by rw [varL,if_pos h]
      rw [e3]
      have:=ih (n / 128) (by omega) (acc ++ [((n % 128+128:Nat):Int)]) (by simp;omega)
      rw [List.append_assoc] at this
      exact this
    · have e3:varL n=[(n:Int)]:=by rw [varL,if_neg h]
      have e4:(n:Int) % 256=(n:Int):=by omega
      rw [e3,e4]
      exact ev_neg (by omega) (ev_pos (by omega) (Ev.now _))

theorem impl_var0:∀ (n:Nat) (acc:List Int),acc.length+n < 140737488355000→Ev (fun k=>impl_VarText.l0 k (n:Int) acc) ((strOfNums (acc++varL n),true)):=by
  intro n
  induction n using Nat.strongRecOn with
  | _ n ih =>
    intro acc hb
    refine ev_step ?_
    simp only [impl_VarText.l0]
    by_cases h:n > 127
    · refine ev_pos (by omega) (ev_pos (by omega) ?_)
      have e1:wrap64 (Int.tdiv (n:Int) 128)=((n / 128:Nat):Int):=by
        rw [show Int.tdiv (n:Int) 128=((n / 128:Nat):Int) from rfl,w64 (by omega) (by omega)]
      have e2:(wrap64 ((Int.tmod (n:Int) 128)+128)) % 256=((n % 128+128:Nat):Int):=by
        rw [show Int.tmod (n:Int) 128=((n % 128:Nat):Int) from rfl,w64 (by omega) (by omega)];omega
      rw [e1,e2]
      have e3:varL n=((n % 128+128:Nat):Int) :: varL (n / 128):=by rw [varL,if_pos h]
      rw [e3]
      have:=ih (n / 128) (by omega) (acc ++ [((n % 128+128:Nat):Int)]) (by simp;omega)
      rw [List.append_assoc] at this
      exact this
    · have e3:varL n=[(n:Int)]:=by rw [varL,if_neg h]
      have e4:(n:Int) % 256=(n:Int):=by omega
      rw [e3,e4]
      exact ev_neg (by omega) (ev_pos (by omega) (Ev.now _))

theorem spec_var (n:Nat) (h:n≤1000000000):Ev (fun k=>spec_l01Var.f k n) (strOfNums (varL n)):=spec_var0 n [] (by simp;omega)
theorem within_true {a b c:Int} (h:b≤a) (h2:a≤c):impl_within.f a b c=some true:=by unfold impl_within.f;rw [if_pos h];simp [h2]
theorem within_false {a b c:Int} (h:¬ (b≤a∧a≤c)):impl_within.f a b c=some false:=by
  unfold impl_within.f
  by_cases h1:a≥b
  · rw [if_pos h1];simp;omega
  · rw [if_neg h1]
theorem impl_varText (n:Int):Ev (fun k=>impl_VarText.f k n) (varText n):=by
  unfold impl_VarText.f varText
  by_cases h:0≤n∧n≤1000000000
  · rw [if_pos h]
    refine ev_cbind (within_true h.1 h.2) (ev_pos rfl ?_)
    have:=impl_var0 n.toNat [] (by simp;omega)
    rw [Int.toNat_of_nonneg h.1] at this
    exact this
  · rw [if_neg h]
    exact ev_cbind (within_false h) (ev_neg (by simp) (Ev.now _))

theorem in_true {a b c:Int} (h:b≤a) (h2:a≤c):spec_l01In.f a b c=some true:=by unfold spec_l01In.f;rw [if_pos h];simp [h2]
theorem in_false {a b c:Int} (h:¬ (b≤a∧a≤c)):spec_l01In.f a b c=some false:=by
  unfold spec_l01In.f
  by_cases h1:a≥b
  · rw [if_pos h1];simp;omega
  · rw [if_neg h1]
theorem toList_inj {a b:ByteArray} (h:a.toList=b.toList):a=b:=by
  rw [ByteArray.toList_eq,ByteArray.toList_eq] at h
  exact ByteArray.ext (Array.toList_inj.1 h)

/-! a number is read -/
theorem varL_range (n:Nat):∀ x ∈ varL n,0≤x∧x≤255:=by
  induction n using Nat.strongRecOn with
  | _ n ih =>
    intro x hx
    rw [varL] at hx
    split at hx
    · rcases List.mem_cons.1 hx with rfl|hx
      · omega
      · exact ih (n / 128) (by omega) x hx
    · rw [List.mem_singleton] at hx
      subst hx;omega
/-- The value of bytes, seven bits each. -/
def valL:List Int→Nat
  | []=>0
  | b :: l=>b.toNat % 128+128 * valL l
/-- Bytes that go on, and a last one that doesn't. -/
def Chain:List Int→Prop
  | []=>False
  | [b]=>0≤b∧b < 128
  | b :: c :: l=>128≤b∧b≤255∧Chain (c :: l)
theorem varL_val:∀ (l:List Int),Chain l→varL (valL l)=l∨(varL (valL l)).length < l.length
  | [],h=>h.elim
  | [b],h=>by
    left
    have h:0≤b∧b < 128:=h
    have e:valL [b]=b.toNat:=by simp only [valL];omega
    rw [e,varL,if_neg (by omega)]
    congr 1
    omega
  | b :: c :: l,h=>by
    obtain⟨h1,h2,h3⟩:=h
    have ih:=varL_val (c :: l) h3
    have ev:valL (b :: c :: l)=b.toNat % 128+128 * valL (c :: l):=rfl
    rw [ev]
    generalize valL (c :: l)=v at ih
    by_cases hv:v=0
    · right
      subst hv
      rw [varL,if_neg (by omega)]
      simp
    · have e1:(b.toNat % 128+128 * v) / 128=v:=by omega
      have e2:(((b.toNat % 128+128 * v) % 128+128:Nat):Int)=b:=by omega
      rw [varL,if_pos (by omega),e1,e2]
      rcases ih with ih|ih
      · left;rw [ih]
      · right;simp at ih ⊢;omega
def bytesAt (s:ByteArray) (a m:Nat):List Int:=(List.range m).map fun (j:Nat)=>bt s ((a+j:Nat):Int)
theorem bt_nat (s:ByteArray) (i:Nat) (h:i < s.size):bt s (i:Int)=((s[i]'h).toNat:Int):=by
  unfold bt
  have e:((i:Nat):Int).toNat=i:=Int.toNat_natCast i
  rw [dif_pos (by rw [e];exact h)]
  simp only [e]
theorem extract_bytesAt (s:ByteArray) (a m:Nat) (h:a+m≤s.size):s.extract a (a+m)=strOfNums (bytesAt s a m):=by
  apply ByteArray.ext
  apply Array.ext
  · rw [ByteArray.data_extract,Array.size_extract]
    show _=(strOfNums (bytesAt s a m)).data.size
    have:(strOfNums (bytesAt s a m)).data.size=m:=by show (strOfNums (bytesAt s a m)).size=m;rw [strOfNums_size];simp [bytesAt]
    have h2:s.data.size=s.size:=rfl
    omega
  · intro i h1 h2
    have hz:(strOfNums (bytesAt s a m)).data.size=m:=by show (strOfNums (bytesAt s a m)).size=m;rw [strOfNums_size];simp [bytesAt]
    have hi:i < m:=by rw [hz] at h2;exact h2
    have e:(strOfNums (bytesAt s a m)).data[i]'h2=UInt8.ofNat (bt s ((a+i:Nat):Int)).toNat:=by
      unfold strOfNums bytesAt
      simp
    rw [e,bt_nat s (a+i) (by omega),Int.toNat_natCast,UInt8.ofNat_toNat]
    simp only [ByteArray.data_extract,Array.getElem_extract]
    rfl
theorem strOfNums_inj {a b:List Int} (ha:∀ x ∈ a,0≤x∧x≤255) (hb:∀ x ∈ b,0≤x∧x≤255) (h:strOfNums a=strOfNums b):a=b:=by
  have h2:(strOfNums a).data.toList=(strOfNums b).data.toList:=by rw [h]
  rw [strOfNums_data,strOfNums_data] at h2
  clear h
  induction a generalizing b with
  | nil =>
    cases b with
    | nil=>rfl
    | cons y b=>simp at h2
  | cons x a ih =>
    cases b with
    | nil=>simp at h2
    | cons y b =>
      simp only [List.map_cons,List.cons.injEq] at h2
      have hx:=ha x (by simp)
      have hy:=hb y (by simp)
      have e:x.toNat=y.toNat:=by
        have:=congrArg UInt8.toNat h2.1
        rw [UInt8.toNat_ofNat',UInt8.toNat_ofNat'] at this
        omega
      rw [ih (fun z hz=>ha z (by simp [hz])) (fun z hz=>hb z (by simp [hz])) h2.2,show x=y by omega]
theorem bytesAt_range (s:ByteArray) (a m:Nat):∀ x ∈ bytesAt s a m,0≤x∧x≤255:=by
  intro x hx
  obtain⟨j,_,rfl⟩:=List.mem_map.1 hx
  exact bt_range _ _
/-- The walk over at most five bytes: d rounds are left, i bytes are behind, which are n. -/
def rv (s:ByteArray) (a:Nat):Nat→Nat→Nat→Int×Int×Bool
  | 0,_,_=>(0,0,false)
  | d+1,i,n =>
    if a+i < s.size then
      if bt s ((a+i:Nat):Int) < 128 then
        if n+(bt s ((a+i:Nat):Int)).toNat % 128 * 128 ^ i≤1000000000∧(varL (n+(bt s ((a+i:Nat):Int)).toNat % 128 * 128 ^ i)).length=i+1 then (((n+(bt s ((a+i:Nat):Int)).toNat % 128 * 128 ^ i:Nat):Int),((a+i+1:Nat):Int),true) else (0,0,false)
      else rv s a d (i+1) (n+(bt s ((a+i:Nat):Int)).toNat % 128 * 128 ^ i)
    else (0,0,false)
def readVarM (s:ByteArray) (a:Int):Int×Int×Bool:=if 0≤a∧a≤(s.size:Int) then rv s a.toNat 5 0 0 else (0,0,false)
theorem pow5 (i:Nat) (h:i < 5):128 ^ i≤268435456:=by
  have:i=0∨i=1∨i=2∨i=3∨i=4:=by omega
  rcases this with rfl|rfl|rfl|rfl|rfl <;> first|decide|(unfold wrap64;decide)
theorem pow_next (i:Nat) (h:i < 5):wrap64 (((128 ^ i:Nat):Int) * 128)=((128 ^ (i+1):Nat):Int):=by
  have:i=0∨i=1∨i=2∨i=3∨i=4:=by omega
  rcases this with rfl|rfl|rfl|rfl|rfl <;> first|decide|(unfold wrap64;decide)
theorem mul_small (x p:Nat) (hx:x < 128) (hp:p≤268435456):x * p≤127 * 268435456:=Nat.mul_le_mul (by omega) hp
theorem shl_pow (x i:Nat) (hx:x < 128) (hi:i < 5):shl .i64 (x:Int) ((7 * i:Nat):Int)=((x * 128 ^ i:Nat):Int):=by
  have:i=0∨i=1∨i=2∨i=3∨i=4:=by omega
  unfold shl IntKind.wrap
  rcases this with rfl|rfl|rfl|rfl|rfl <;> simp [IntKind.bits,IntKind.signed] <;> omega
theorem spec_var' (m:Nat) (hm:m≤1000000000):Ev (fun k=>spec_l01Var.f k (m:Int)) (strOfNums (varL m)):=spec_var m hm
theorem impl_rv (s:ByteArray) (hs:s.size≤140737488351232) (a:Nat) (ha:a≤s.size):∀ (d i n:Nat),d+i=5→n < 128 ^ i→Ev (fun k=>impl_ReadVar.l0 k s (a:Int) (n:Int) (i:Int)) (rv s a d i n):=by
  intro d
  induction d with
  | zero =>
    intro i n hi hn
    refine ev_step ?_
    simp only [impl_ReadVar.l0]
    refine ev_neg (by omega) (ev_step ?_)
    simp only [impl_ReadVar.j1]
    exact ev_neg (by simp) (Ev.now _)
  | succ d ih =>
    intro i n hi hn
    have hp:=pow5 i (by omega)
    refine ev_step ?_
    simp only [impl_ReadVar.l0]
    have e1:wrap64 ((a:Int)+(i:Int))=((a+i:Nat):Int):=by rw [w64 (by omega) (by omega)];omega
    refine ev_pos (by omega) ?_
    rw [e1]
    refine ev_step ?_
    simp only [impl_ReadVar.j1]
    rw [rv]
    by_cases c1:a+i < s.size
    · have hb:=bt_range s ((a+i:Nat):Int)
      have hc:wrap64 (bt s ((a+i:Nat):Int))=bt s ((a+i:Nat):Int):=w64 (by omega) (by omega)
      have e2:wrap64 (7 * (i:Int))=((7 * i:Nat):Int):=by rw [w64 (by omega) (by omega)];omega
      have e3:Int.tmod (bt s ((a+i:Nat):Int)) 128=(((bt s ((a+i:Nat):Int)).toNat % 128:Nat):Int):=by
        rw [Int.tmod_eq_emod_of_nonneg hb.1];omega
      have hx:(bt s ((a+i:Nat):Int)).toNat % 128 < 128:=by omega
      have hm:=mul_small _ _ hx hp
      have e4:wrap64 ((n:Int)+shl .i64 (((bt s ((a+i:Nat):Int)).toNat % 128:Nat):Int) ((7 * i:Nat):Int))=((n+(bt s ((a+i:Nat):Int)).toNat % 128 * 128 ^ i:Nat):Int):=by
        rw [shl_pow _ _ hx (by omega),w64 (by omega) (by omega)];omega
      rw [e1,hc,e2,e3,e4,if_pos c1]
      have hpw:128 ^ (i+1)=128 ^ i * 128:=Nat.pow_succ ..
      clear e4
      generalize 128 ^ i=p at *
      have hl:(bt s ((a+i:Nat):Int)).toNat % 128 * p≤127 * p:=Nat.mul_le_mul_right _ (by omega)
      generalize hQ:(bt s ((a+i:Nat):Int)).toNat % 128 * p=Q at *
      generalize hM:n+Q=M at *
      rw [decide_eq_true (show ((a+i:Nat):Int) < (s.size:Int) by omega)]
      refine ev_pos (by first|rfl|trivial) (ev_pos (by omega) (ev_pos (by omega) (ev_pos (by omega) (ev_if (fun c=>?_) (fun c=>?_)))))
      · rw [if_pos c]
        refine ev_bind (impl_varText (M:Int)) ?_
        unfold varText
        by_cases h1:M≤1000000000
        · rw [if_pos (show 0≤(M:Int)∧(M:Int)≤1000000000 by omega),Int.toNat_natCast]
          have e5:wrap64 ((i:Int)+1)=((i+1:Nat):Int):=next64 i (by omega)
          have e6:wrap64 (((a+i:Nat):Int)+1)=((a+i+1:Nat):Int):=next64 _ (by omega)
          rw [e5,e6]
          refine ev_pos rfl (ev_if (fun h2=>?_) (fun h2=>?_))
          · rw [strOfNums_size] at h2
            have h3:(varL M).length=i+1:=Int.ofNat_inj.1 h2
            rw [if_pos (And.intro h1 h3)];exact Ev.now _
          · rw [strOfNums_size] at h2
            have h3:¬ (M≤1000000000∧(varL M).length=i+1):=fun h=>h2 (congrArg Int.ofNat h.2)
            rw [if_neg h3];exact Ev.now _
        · rw [if_neg (show ¬ (0≤(M:Int)∧(M:Int)≤1000000000) by omega),if_neg (fun h:M≤1000000000∧(varL M).length=i+1=>h1 h.1)]
          exact ev_neg (by simp) (Ev.now _)
      · rw [if_neg c,next64 i (by omega)]
        refine ih (i+1) M (by omega) ?_
        rw [hpw]
        omega
    · rw [decide_eq_false (show ¬ ((a+i:Nat):Int) < (s.size:Int) by omega),if_neg c1]
      exact ev_neg (by simp) (Ev.now _)
theorem impl_readVar (s:ByteArray) (hs:s.size≤140737488351232) (a:Int):Ev (fun k=>impl_ReadVar.f k s a) (readVarM s a):=by
  unfold impl_ReadVar.f readVarM
  by_cases h:0≤a∧a≤(s.size:Int)
  · rw [if_pos h]
    refine ev_cbind (within_true h.1 h.2) (ev_pos rfl ?_)
    have:=impl_rv s hs a.toNat (by omega) 5 0 0 (by omega) (by decide)
    rw [Int.toNat_of_nonneg h.1] at this
    exact this
  · rw [if_neg h]
    exact ev_cbind (within_false h) (ev_neg (by simp) (Ev.now _))
/-- What has been read: i bytes that all go on, and their value. -/
def Behind (s:ByteArray) (a i n:Nat):Prop := ∀ l,Chain l→Chain (bytesAt s a i++l)∧valL (bytesAt s a i++l)=n+valL l * 128 ^ i
theorem bytesAt_succ (s:ByteArray) (a i:Nat):bytesAt s a (i+1)=bytesAt s a i ++ [bt s ((a+i:Nat):Int)]:=by
  unfold bytesAt
  rw [List.range_succ,List.map_append];rfl
theorem behind_zero (s:ByteArray) (a:Nat):Behind s a 0 0:=by
  intro l hl
  refine⟨hl,?_⟩
  show valL l=0+valL l * 128 ^ 0
  rw [Nat.pow_zero];omega
theorem behind_succ (s:ByteArray) (a i n:Nat) (h:Behind s a i n) (hc:¬ bt s ((a+i:Nat):Int) < 128):Behind s a (i+1) (n+(bt s ((a+i:Nat):Int)).toNat % 128 * 128 ^ i):=by
  intro l hl
  have hb:=bt_range s ((a+i:Nat):Int)
  rw [bytesAt_succ,List.append_assoc]
  have hl2:Chain ([bt s ((a+i:Nat):Int)]++l):=by
    cases l with
    | nil=>exact hl.elim
    | cons c l=>exact⟨by omega,hb.2,hl⟩
  obtain⟨h1,h2⟩:=h _ hl2
  refine⟨h1,?_⟩
  rw [h2]
  have e:valL ([bt s ((a+i:Nat):Int)]++l)=(bt s ((a+i:Nat):Int)).toNat % 128+128 * valL l:=rfl
  rw [e,Nat.add_mul,Nat.pow_succ,Nat.add_assoc]
  congr 2
  rw [Nat.mul_comm 128 (valL l),Nat.mul_assoc,Nat.mul_comm 128]
theorem spec_rv (s:ByteArray) (hs:s.size≤140737488351232) (a:Nat) (ha:a≤s.size):∀ (d i n:Nat),d+i=5→n < 128 ^ i→Behind s a i n→Ev (fun k=>spec_ReadVar.l0 k s (a:Int) (n:Int) ((128 ^ i:Nat):Int) ((a+i:Nat):Int)) (rv s a d i n):=by
  intro d
  induction d with
  | zero =>
    intro i n hi hn hbe
    have e0:wrap64 ((a:Int)+5)=(a:Int)+5:=w64 (by omega) (by omega)
    refine ev_step ?_
    simp only [spec_ReadVar.l0]
    rw [e0]
    refine ev_if (fun _=>?_) (fun _=>?_)
    · refine ev_step ?_
      simp only [spec_ReadVar.j1]
      rw [decide_eq_false (by omega)]
      exact ev_neg (by simp) (Ev.now _)
    · refine ev_step ?_
      simp only [spec_ReadVar.j1]
      exact ev_neg (by simp) (Ev.now _)
  | succ d ih =>
    intro i n hi hn hbe
    have hp:=pow5 i (by omega)
    have e0:wrap64 ((a:Int)+5)=(a:Int)+5:=w64 (by omega) (by omega)
    refine ev_step ?_
    simp only [spec_ReadVar.l0]
    rw [rv,e0]
    by_cases c1:a+i < s.size
    · have hb:=bt_range s ((a+i:Nat):Int)
      have q1:((a+i:Nat):Int) < (s.size:Int):=by omega
      have q2:((a+i:Nat):Int) < (a:Int)+5:=by omega
      have q3:0≤((a+i:Nat):Int):=by omega
      have q4:(0:Int)≤(a:Int):=by omega
      have q5:(a:Int)≤((a+(i+1):Nat):Int):=by omega
      have q7:a+(i+1)≤s.size:=by omega
      have q6:((a+(i+1):Nat):Int)≤(s.size:Int):=by omega
      have hc:wrap64 (bt s ((a+i:Nat):Int))=bt s ((a+i:Nat):Int):=w64 (by omega) (by omega)
      have e3:Int.tmod (bt s ((a+i:Nat):Int)) 128=(((bt s ((a+i:Nat):Int)).toNat % 128:Nat):Int):=by
        rw [Int.tmod_eq_emod_of_nonneg hb.1];omega
      have hx:(bt s ((a+i:Nat):Int)).toNat % 128 < 128:=by omega
      have hm:=mul_small _ _ hx hp
      have e4:wrap64 ((n:Int)+wrap64 ((((bt s ((a+i:Nat):Int)).toNat % 128:Nat):Int) * ((128 ^ i:Nat):Int)))=((n+(bt s ((a+i:Nat):Int)).toNat % 128 * 128 ^ i:Nat):Int):=by
        rw [← Int.natCast_mul,w64 (x:=(((bt s ((a+i:Nat):Int)).toNat % 128 * 128 ^ i:Nat):Int)) (by omega) (by omega),w64 (by omega) (by omega)];omega
      have e5:wrap64 (((128 ^ i:Nat):Int) * 128)=((128 ^ (i+1):Nat):Int):=pow_next i (by omega)
      have e6:wrap64 (((a+i:Nat):Int)+1)=((a+(i+1):Nat):Int):=next64 _ (by omega)
      rw [if_pos c1]
      refine ev_pos q1 (ev_step ?_)
      simp only [spec_ReadVar.j1]
      rw [hc,e3,e4,e5,e6,decide_eq_true q2]
      have hpw:128 ^ (i+1)=128 ^ i * 128:=Nat.pow_succ ..
      clear e4 e5
      have hbe1:=hbe [bt s ((a+i:Nat):Int)]
      have hbe2:=behind_succ s a i n hbe
      have hl:(bt s ((a+i:Nat):Int)).toNat % 128 * 128 ^ i≤127 * 128 ^ i:=Nat.mul_le_mul_right _ (by omega)
      have hv:valL [bt s ((a+i:Nat):Int)]=(bt s ((a+i:Nat):Int)).toNat % 128:=by simp only [valL];omega
      rw [hv] at hbe1
      clear hbe hv
      generalize hQ:(bt s ((a+i:Nat):Int)).toNat % 128 * 128 ^ i=Q at *
      generalize hM:n+Q=M at *
      have hpn:M < 128 ^ (i+1):=by rw [hpw];generalize 128 ^ i=p at *;omega
      clear hn hl hpw hm hp hM hQ
      refine ev_pos (by first|rfl|trivial) (ev_pos q3 (ev_pos q1 (ev_if (fun c=>?_) (fun c=>?_))))
      · rw [if_pos c]
        have hch:=hbe1 ⟨hb.1,c⟩
        rw [← bytesAt_succ] at hch
        clear ih hbe2 hpn
        have hvl:=varL_val _ hch.1
        rw [hch.2] at hvl
        have hlen:(bytesAt s a (i+1)).length=i+1:=by simp [bytesAt]
        rw [hlen] at hvl
        refine ev_if (fun h1=>?_) (fun h1=>?_)
        · have hM1:¬ M≤1000000000:=by clear hvl hch;omega
          rw [if_neg (fun h:M≤1000000000∧(varL M).length=i+1=>hM1 h.1)];exact Ev.now _
        · have hM1:M≤1000000000:=by clear hvl hch;omega
          refine ev_bind (spec_var' M hM1) (ev_pos q4 (ev_pos q5 (ev_pos q6 ?_)))
          have e7:(((a:Nat):Int):Int).toNat=a:=Int.toNat_natCast a
          have e8:(((a+(i+1):Nat):Int):Int).toNat=a+(i+1):=Int.toNat_natCast _
          rw [e7,e8,extract_bytesAt s a (i+1) q7]
          refine ev_if (fun h2=>?_) (fun h2=>?_)
          · have h3:varL M=bytesAt s a (i+1):=strOfNums_inj (varL_range M) (bytesAt_range s a (i+1)) (toList_inj h2)
            rw [if_pos (And.intro hM1 (by rw [h3,hlen]))];exact Ev.now _
          · have h6:¬ (M≤1000000000∧(varL M).length=i+1):=by
              rintro⟨_,h4⟩
              rcases hvl with h5|h5
              · exact h2 (by rw [h5])
              · rw [h4] at h5;exact Nat.lt_irrefl _ h5
            rw [if_neg h6]
            exact Ev.now _
      · rw [if_neg c]
        exact ih (i+1) M (by omega) hpn (hbe2 c)
    · rw [if_neg c1]
      refine ev_neg (by omega) (ev_step ?_)
      simp only [spec_ReadVar.j1]
      exact ev_neg (by simp) (Ev.now _)
theorem spec_readVar (s:ByteArray) (hs:s.size≤140737488351232) (a:Int):Ev (fun k=>spec_ReadVar.f k s a) (readVarM s a):=by
  unfold spec_ReadVar.f readVarM
  by_cases h:0≤a∧a≤(s.size:Int)
  · rw [if_pos h]
    refine ev_cbind (in_true h.1 h.2) (ev_pos rfl ?_)
    have:=spec_rv s hs a.toNat (by omega) 5 0 0 (by omega) (by decide) (behind_zero s a.toNat)
    have e1:((a.toNat+0:Nat):Int)=a:=by omega
    have e2:((a.toNat:Nat):Int)=a:=by omega
    rw [e1,e2] at this
    exact this
  · rw [if_neg h]
    exact ev_cbind (in_false h) (ev_neg (by simp) (Ev.now _))

/-! a short text is read -/
theorem rv_bounds (s:ByteArray) (a:Nat):∀ (d i n:Nat),(rv s a d i n).2.2=true→0≤(rv s a d i n).1∧(rv s a d i n).1≤1000000000∧((a:Int) < (rv s a d i n).2.1)∧(rv s a d i n).2.1≤(s.size:Int):=by
  intro d
  induction d with
  | zero=>intro i n h;simp [rv] at h
  | succ d ih =>
    intro i n h
    rw [rv] at h ⊢
    generalize n+(bt s ((a+i:Nat):Int)).toNat % 128 * 128 ^ i=M at *
    split at h
    · rename_i c1
      rw [if_pos c1]
      split at h
      · rename_i c2
        rw [if_pos c2]
        split at h
        · rename_i c3
          rw [if_pos c3]
          obtain⟨c4,_⟩:=c3
          refine⟨?_,?_,?_,?_⟩
          · show 0≤(M:Int);omega
          · show (M:Int)≤_;omega
          · show (a:Int) < ((a+i+1:Nat):Int);omega
          · show ((a+i+1:Nat):Int)≤_;omega
        · simp at h
      · rename_i c2
        rw [if_neg c2]
        exact ih _ _ h
    · simp at h
theorem readVarM_bounds (s:ByteArray) (a:Int) (h:(readVarM s a).2.2=true):0≤a∧0≤(readVarM s a).1∧(readVarM s a).1≤1000000000∧a < (readVarM s a).2.1∧(readVarM s a).2.1≤(s.size:Int):=by
  unfold readVarM at h ⊢
  split at h
  · rename_i c
    rw [if_pos c]
    have:=rv_bounds s a.toNat 5 0 0 h
    refine⟨c.1,this.1,this.2.1,?_,this.2.2.2⟩
    have h2:=this.2.2.1
    omega
  · simp at h
def readShortM (s:ByteArray) (a:Int):ByteArray×Int×Bool :=
  if (readVarM s a).2.2=true∧(readVarM s a).1≤20000∧(readVarM s a).1≤(s.size:Int) - (readVarM s a).2.1 then (s.extract (readVarM s a).2.1.toNat ((readVarM s a).2.1+(readVarM s a).1).toNat,(readVarM s a).2.1+(readVarM s a).1,true) else ((⟨#[]⟩:ByteArray),0,false)
theorem impl_readShort (s:ByteArray) (hs:s.size≤140737488351232) (a:Int):Ev (fun k=>impl_ReadShort.f k s a) (readShortM s a):=by
  unfold impl_ReadShort.f readShortM
  have hb:=readVarM_bounds s a
  refine ev_bind (impl_readVar s hs a) ?_
  generalize readVarM s a=r at hb ⊢
  obtain⟨n,next,ok⟩:=r
  refine ev_if (fun h1=>?_) (fun h1=>?_)
  · obtain⟨b1,b2,b3,b4,b5⟩:=hb h1
    have h1':ok=true:=h1
    have b2':0≤n:=b2
    have b3':n≤1000000000:=b3
    have b4':a < next:=b4
    have b5':next≤(s.size:Int):=b5
    clear hb b2 b3 b4 b5
    show Ev (fun _=>if n > 20000 then _ else if n > wrap64 ((s.size:Int) - next) then _ else if 0≤next then if next≤wrap64 (next+n) then if wrap64 (next+n)≤(s.size:Int) then _ else _ else _ else _) (if ok=true∧n≤20000∧n≤(s.size:Int) - next then (s.extract next.toNat (next+n).toNat,next+n,true) else _)
    rw [w64 (x:=(s.size:Int) - next) (by omega) (by omega),w64 (x:=next+n) (by omega) (by omega)]
    refine ev_if (fun h2=>?_) (fun h2=>ev_if (fun h3=>?_) (fun h3=>?_))
    · rw [if_neg (fun h=>by omega)];exact Ev.now _
    · rw [if_neg (fun h=>by omega)];exact Ev.now _
    · rw [if_pos (show ok=true∧n≤20000∧n≤(s.size:Int) - next from ⟨h1',by omega,by omega⟩)]
      exact ev_pos (by omega) (ev_pos (by omega) (ev_pos (by omega) (Ev.now _)))
  · rw [if_neg (fun h=>h1 h.1)];exact Ev.now _
theorem spec_readShort (s:ByteArray) (hs:s.size≤140737488351232) (a:Int):Ev (fun k=>spec_ReadShort.f k s a) (readShortM s a):=by
  unfold spec_ReadShort.f readShortM
  have hb:=readVarM_bounds s a
  refine ev_bind (spec_readVar s hs a) ?_
  generalize readVarM s a=r at hb ⊢
  obtain⟨n,next,ok⟩:=r
  refine ev_if (fun h1=>?_) (fun h1=>?_)
  · obtain⟨b1,b2,b3,b4,b5⟩:=hb h1
    have h1':ok=true:=h1
    have b2':0≤n:=b2
    have b3':n≤1000000000:=b3
    have b4':a < next:=b4
    have b5':next≤(s.size:Int):=b5
    clear hb b2 b3 b4 b5
    show Ev (fun _=>if n > 20000 then _ else if n > wrap64 ((s.size:Int) - next) then _ else if 0≤next then if next≤wrap64 (next+n) then if wrap64 (next+n)≤(s.size:Int) then _ else _ else _ else _) (if ok=true∧n≤20000∧n≤(s.size:Int) - next then (s.extract next.toNat (next+n).toNat,next+n,true) else _)
    rw [w64 (x:=(s.size:Int) - next) (by omega) (by omega),w64 (x:=next+n) (by omega) (by omega)]
    refine ev_if (fun h2=>?_) (fun h2=>ev_if (fun h3=>?_) (fun h3=>?_))
    · rw [if_neg (fun h=>by omega)];exact Ev.now _
    · rw [if_neg (fun h=>by omega)];exact Ev.now _
    · rw [if_pos (show ok=true∧n≤20000∧n≤(s.size:Int) - next from ⟨h1',by omega,by omega⟩)]
      exact ev_pos (by omega) (ev_pos (by omega) (ev_pos (by omega) (Ev.now _)))
  · rw [if_neg (fun h=>h1 h.1)];exact Ev.now _

/-! an area is read -/
theorem secText_size (S:List ByteArray) (C:List IPut) (f:Int) (hs:∀ s ∈ S,s.size≤1048576) (hp:∀ p ∈ C,p.f1.size≤1048576):∀ (d:Nat) (i:Int) (acc:ByteArray),(secText S C f d i acc).1.size≤acc.size+d * 1048576:=by
  intro d
  induction d with
  | zero=>intro i acc;simp [secText]
  | succ d ih =>
    intro i acc
    unfold secText
    split
    · refine Nat.le_trans (ih _ _) ?_
      have:=readM_size S C (f+i) 1048576 hs hp
      rw [ByteArray.size_append];omega
    · show 0≤_;omega
theorem sectorTextM_size (S:List ByteArray) (C:List IPut) (f n:Int) (hs:∀ s ∈ S,s.size≤1048576) (hp:∀ p ∈ C,p.f1.size≤1048576):(sectorTextM S C f n).1.size≤104857600:=by
  unfold sectorTextM
  split
  · rename_i h
    refine Nat.le_trans (secText_size S C f hs hp n.toNat 0 _) ?_
    have:n.toNat * 1048576≤100 * 1048576:=Nat.mul_le_mul_right _ (by omega)
    show 0+_≤_;omega
  · show 0≤_;omega
def readRecs (t:ByteArray):Nat→Int→List ByteArray→List ByteArray×Int×Bool
  | 0,a,acc=>(acc,a,true)
  | d+1,a,acc=>if (readShortM t a).2.2=true then (if (readShortM t a).1.toList=([]:List UInt8) then (([]:List ByteArray),0,false) else readRecs t d (readShortM t a).2.1 (acc ++ [(readShortM t a).1])) else (([]:List ByteArray),0,false)
def areaText (S:List ByteArray) (C:List IPut) (a:Int):ByteArray×Bool:=sectorTextM S C (areaFirstM a+1) 47
def readAreaM (S:List ByteArray) (C:List IPut) (a:Int):List ByteArray×Int×Bool :=
  if 0≤a∧a≤1 then (if (areaText S C a).2=true then readRecs (areaText S C a).1 (countM S C a).toNat 0 [] else (([]:List ByteArray),0,false)) else (([]:List ByteArray),0,false)
theorem countM_range (S:List ByteArray) (C:List IPut) (a:Int):0≤countM S C a∧countM S C a≤255:=by
  unfold countM
  split
  · exact firstM_range _ _ _
  · omega
theorem impl_recs (S:List ByteArray) (C:List IPut) (a:Int) (t:ByteArray) (hS:S.length≤1099511627776) (hC:C.length≤1099511627776) (ht:t.size≤104857600):∀ (d:Nat) (i at_:Int) (acc:List ByteArray),0≤i→i+d=countM S C a→acc.length≤i.toNat →
    Ev (fun k=>impl_ReadArea.l0 k a t acc at_ i S C) (readRecs t d at_ acc):=by
  have hc:=countM_range S C a
  intro d
  induction d with
  | zero =>
    intro i at_ acc h0 h1 h2
    refine ev_step ?_
    simp only [impl_ReadArea.l0]
    exact ev_bind (impl_count S C a hS hC) (ev_neg (by omega) (Ev.now _))
  | succ d ih =>
    intro i at_ acc h0 h1 h2
    refine ev_step ?_
    simp only [impl_ReadArea.l0]
    unfold readRecs
    rw [w64 (x:=i+1) (by omega) (by omega)]
    refine ev_bind (impl_count S C a hS hC) (ev_pos (by omega) (ev_bind (impl_readShort t (by omega) at_) (ev_if (fun c=>ev_if (fun c2=>?_) (fun c2=>?_)) (fun c=>?_))))
    · rw [if_pos c,if_pos c2];exact Ev.now _
    · rw [if_pos c,if_neg c2]
      exact ev_pos (by omega) (ih (i+1) _ _ (by omega) (by omega) (by rw [List.length_append,List.length_singleton];omega))
    · rw [if_neg c];exact Ev.now _
theorem impl_readArea (S:List ByteArray) (C:List IPut) (a:Int) (hS:S.length≤1099511627776) (hC:C.length≤1099511627776) (hs:∀ s ∈ S,s.size≤1048576) (hp:∀ p ∈ C,p.f1.size≤1048576):Ev (fun k=>impl_ReadArea.f k S C a) (readAreaM S C a):=by
  unfold impl_ReadArea.f readAreaM
  have hc:=countM_range S C a
  have hA:0≤areaFirstM a∧areaFirstM a≤49:=by unfold areaFirstM;split <;> omega
  have hw:wrap64 (areaFirstM a+1)=areaFirstM a+1:=w64 (by omega) (by omega)
  have ht:=impl_sectorText S C (areaFirstM a+1) 47 hS hC (by omega) hs hp
  have hz:=sectorTextM_size S C (areaFirstM a+1) 47 hs hp
  refine ev_cbind (impl_areaFirst a) ?_
  rw [hw]
  refine ev_bind ht ?_
  unfold areaText
  generalize sectorTextM S C (areaFirstM a+1) 47=t at hz
  have hi:impl_isArea.f a=some (decide (0≤a∧a≤1)):=by
    unfold impl_isArea.f
    by_cases h0:a=0
    · rw [if_pos h0];subst h0;rfl
    · rw [if_neg h0]
      by_cases h1:a=1
      · subst h1;rfl
      · rw [decide_eq_false (by omega),beq_eq_false_iff_ne.2 h1]
  refine ev_if (fun c=>ev_cbind hi (ev_step ?_)) (fun c=>ev_step ?_)
  · simp only [impl_ReadArea.j0]
    by_cases d:0≤a∧a≤1
    · rw [decide_eq_true d,if_pos d,if_pos c]
      exact ev_neg (by simp) (impl_recs S C a t.1 hS hC hz (countM S C a).toNat 0 0 [] (by omega) (by omega) (by simp))
    · rw [decide_eq_false d,if_neg d]
      exact ev_pos rfl (Ev.now _)
  · simp only [impl_ReadArea.j0]
    refine ev_pos (by first|rfl|trivial) (ev_now ?_)
    rw [if_neg c]
    split <;> rfl
theorem spec_recs (S:List ByteArray) (C:List IPut) (a:Int) (t:ByteArray) (hS:S.length≤1099511627776) (hC:C.length≤1099511627776) (ht:t.size≤104857600):∀ (d:Nat) (i at_:Int) (acc:List ByteArray),0≤i→i+d=countM S C a→acc.length≤i.toNat →
    Ev (fun k=>spec_ReadArea.l0 k a ([]:List ByteArray) t acc at_ i S C) (readRecs t d at_ acc):=by
  have hc:=countM_range S C a
  intro d
  induction d with
  | zero =>
    intro i at_ acc h0 h1 h2
    refine ev_step ?_
    simp only [spec_ReadArea.l0]
    exact ev_bind (spec_count S C a hS hC) (ev_neg (by omega) (Ev.now _))
  | succ d ih =>
    intro i at_ acc h0 h1 h2
    refine ev_step ?_
    simp only [spec_ReadArea.l0]
    unfold readRecs
    rw [w64 (x:=i+1) (by omega) (by omega)]
    refine ev_bind (spec_count S C a hS hC) (ev_pos (by omega) (ev_bind (spec_readShort t (by omega) at_) (ev_if (fun c=>ev_if (fun c2=>?_) (fun c2=>?_)) (fun c=>?_))))
    · rw [if_pos c,if_pos c2];exact Ev.now _
    · rw [if_pos c,if_neg c2]
      exact ev_pos (by omega) (ih (i+1) _ _ (by omega) (by omega) (by rw [List.length_append,List.length_singleton];omega))
    · rw [if_neg c];exact Ev.now _
theorem spec_readArea (S:List ByteArray) (C:List IPut) (a:Int) (hS:S.length≤1099511627776) (hC:C.length≤1099511627776) (hs:∀ s ∈ S,s.size≤1048576) (hp:∀ p ∈ C,p.f1.size≤1048576):Ev (fun k=>spec_ReadArea.f k S C a) (readAreaM S C a):=by
  unfold spec_ReadArea.f readAreaM
  have hc:=countM_range S C a
  have hA:0≤areaFirstM a∧areaFirstM a≤49:=by unfold areaFirstM;split <;> omega
  have hw:wrap64 (areaFirstM a+1)=areaFirstM a+1:=w64 (by omega) (by omega)
  have ht:=spec_sectorText S C (areaFirstM a+1) 47 hS hC (by omega) hs hp
  have hz:=sectorTextM_size S C (areaFirstM a+1) 47 hs hp
  refine ev_cbind rfl (ev_cbind (in_val _ _ _) (ev_if (fun d=>?_) (fun d=>?_)))
  · rw [decide_eq_true_eq] at d
    rw [if_pos d]
    refine ev_cbind (spec_areaFirst a) ?_
    rw [hw]
    refine ev_bind ht ?_
    unfold areaText
    generalize sectorTextM S C (areaFirstM a+1) 47=t at hz
    refine ev_if (fun c=>?_) (fun c=>?_)
    · rw [if_pos c]
      exact spec_recs S C a t.1 hS hC hz (countM S C a).toNat 0 0 [] (by omega) (by omega) (by simp)
    · rw [if_neg c];exact Ev.now _
  · rw [if_neg (fun h=>d (decide_eq_true h))];exact Ev.now _
theorem readRecs_len (t:ByteArray):∀ (d:Nat) (a:Int) (acc:List ByteArray),(readRecs t d a acc).1.length≤acc.length+d:=by
  intro d
  induction d with
  | zero=>intro a acc;simp [readRecs]
  | succ d ih =>
    intro a acc
    unfold readRecs
    split
    · split
      · show 0≤_;omega
      · refine Nat.le_trans (ih _ _) ?_
        rw [List.length_append,List.length_singleton];omega
    · show 0≤_;omega
theorem readAreaM_len (S:List ByteArray) (C:List IPut) (a:Int):(readAreaM S C a).1.length≤255:=by
  unfold readAreaM
  have hc:=countM_range S C a
  split
  · split
    · refine Nat.le_trans (readRecs_len _ _ _ _) ?_
      show 0+_≤_;omega
    · show 0≤_;omega
  · show 0≤_;omega

/-! a log is right -/
def logOkM (S:List ByteArray) (C:List IPut):Bool:=diskOkM S C && (decide ((S.length:Int)=97) && (decide ((C.length:Int)=0) && ((readAreaM S C 0).2.2 && (readAreaM S C 1).2.2)))
theorem impl_logOk (S:List ByteArray) (C:List IPut) (hS:S.length≤1099511627776) (hC:C.length≤1099511627776) (hs:∀ s ∈ S,s.size≤1048576) (hp:∀ p ∈ C,p.f1.size≤1048576):Ev (fun k=>impl_LogOk.f k S C) (logOkM S C):=by
  unfold impl_LogOk.f logOkM
  refine ev_bind (impl_readArea S C 0 hS hC hs hp) (ev_bind (impl_readArea S C 1 hS hC hs hp) (ev_bind (impl_diskOk S C hS hC) ?_))
  generalize diskOkM S C=b
  generalize readAreaM S C 0=r0
  generalize readAreaM S C 1=r1
  refine ev_if (fun c=>ev_if (fun c2=>ev_if (fun c3=>ev_if (fun c4=>?_) (fun c4=>?_)) (fun c3=>?_)) (fun c2=>?_)) (fun c=>?_)
  · rw [c,c4,decide_eq_true c2,decide_eq_true c3];exact ev_now (by simp)
  · rw [Bool.not_eq_true] at c4;rw [c,c4,decide_eq_true c2,decide_eq_true c3];exact ev_now (by simp)
  · rw [c,decide_eq_false c3];exact ev_now (by simp)
  · rw [c,decide_eq_false c2];exact ev_now (by simp)
  · rw [Bool.not_eq_true] at c;rw [c];exact ev_now (by simp)
theorem spec_logOk (S:List ByteArray) (C:List IPut) (hS:S.length≤1099511627776) (hC:C.length≤1099511627776) (hs:∀ s ∈ S,s.size≤1048576) (hp:∀ p ∈ C,p.f1.size≤1048576):Ev (fun k=>spec_LogOk.f k S C) (logOkM S C):=by
  unfold spec_LogOk.f logOkM
  have e:spec_l04Sectors.f=some 97:=by unfold spec_l04Sectors.f;rfl
  have h0:=spec_readArea S C 0 hS hC hs hp
  have h1:=spec_readArea S C 1 hS hC hs hp
  generalize readAreaM S C 0=r0 at h0
  generalize readAreaM S C 1=r1 at h1
  have hf:∀ b:Bool,b=false→Ev (fun k=>spec_LogOk.j0 k true S C) b:=by
    intro b hb
    subst hb
    refine ev_step ?_
    simp only [spec_LogOk.j0]
    exact ev_pos (by first|rfl|trivial) (Ev.now _)
  refine ev_bind (spec_diskOk S C hS hC) ?_
  generalize diskOkM S C=b
  refine ev_if (fun c=>ev_cbind e (ev_if (fun c2=>?_) (fun c2=>?_))) (fun c=>?_)
  · by_cases c3:(C.length:Int)=0
    · refine ev_step ?_
      simp only [spec_LogOk.j0]
      rw [decide_eq_false (show ¬ (C.length:Int) > 0 by omega)]
      refine ev_neg (by simp) (ev_bind h0 (ev_bind h1 (ev_if (fun c4=>?_) (fun c4=>?_))))
      · rw [c,c4,decide_eq_true c2,decide_eq_true c3];exact ev_now (by simp)
      · rw [Bool.not_eq_true] at c4;rw [c,c4,decide_eq_true c2,decide_eq_true c3];exact ev_now (by simp)
    · rw [decide_eq_true (show (C.length:Int) > 0 by omega)]
      refine hf _ ?_
      rw [c,decide_eq_false c3];simp
  · refine hf _ ?_
    rw [c,decide_eq_false c2];simp
  · refine hf _ ?_
    rw [Bool.not_eq_true] at c;rw [c];simp

def activeM (S:List ByteArray) (C:List IPut):Int:=Int.tmod (firstM S C 0) 2
theorem impl_active (S:List ByteArray) (C:List IPut) (hS:S.length≤1099511627776) (hC:C.length≤1099511627776):Ev (fun k=>impl_ActiveOf.f k S C) (activeM S C):=by
  unfold impl_ActiveOf.f
  exact ev_bind (impl_first S C 0 hS hC) (Ev.now _)
theorem spec_active (S:List ByteArray) (C:List IPut) (hS:S.length≤1099511627776) (hC:C.length≤1099511627776):Ev (fun k=>spec_ActiveOf.f k S C) (activeM S C):=by
  unfold spec_ActiveOf.f
  exact ev_bind (spec_first S C 0 hS hC) (Ev.now _)

def logTextsM (S:List ByteArray) (C:List IPut):List ByteArray:=(readAreaM S C (activeM S C)).1
theorem impl_logTexts (S:List ByteArray) (C:List IPut) (hS:S.length≤1099511627776) (hC:C.length≤1099511627776) (hs:∀ s ∈ S,s.size≤1048576) (hp:∀ p ∈ C,p.f1.size≤1048576):Ev (fun k=>impl_LogTexts.f k S C) (logTextsM S C):=by
  unfold impl_LogTexts.f logTextsM
  exact ev_bind (impl_active S C hS hC) (ev_bind (impl_readArea S C _ hS hC hs hp) (Ev.now _))

theorem putAll_64 (C:List IPut) (hC:∀ p ∈ C,p.f1.size=64):∀ (S:List ByteArray),(∀ s ∈ S,s.size=64)→∀ s ∈ putAll S C,s.size=64:=by
  induction C with
  | nil=>intro S h;exact h
  | cons p C ih =>
    intro S h
    show ∀ s ∈ putAll (S.set p.f0.toNat p.f1) C,s.size=64
    refine ih (fun q hq=>hC q (by simp [hq])) _ (fun a ha=>?_)
    rcases List.mem_or_eq_of_mem_set ha with h2|rfl
    · exact h a h2
    · exact hC p (by simp)
theorem flush_ok (S:List ByteArray) (C:List IPut) (hd:diskOkM S C=true):flushM S C=(putAll S C,[])∧diskOkM (putAll S C) []=true:=by
  refine⟨by unfold flushM;rw [if_pos hd],?_⟩
  obtain⟨h1,h2,h3,h4,h5⟩:=(diskOk_iff S C).1 hd
  exact (diskOk_iff _ _).2 ⟨by rw [putAll_length];exact h1,by rw [putAll_length];exact h2,by simp,putAll_64 C (fun p hp=>(h5 p hp).2.2) S h4,fun p hp=>by cases hp⟩

def shortText (s:ByteArray):ByteArray×Bool:=if s.size > 20000 then ((⟨#[]⟩:ByteArray),false) else (strOfNums (varL s.size)++s,true)
theorem varL_length (n:Nat):(varL n).length≤n+1:=by
  induction n using Nat.strongRecOn with
  | _ n ih =>
    rw [varL]
    split
    · have:=ih (n / 128) (by omega)
      simp;omega
    · simp
theorem impl_shortText (s:ByteArray):Ev (fun k=>impl_ShortText.f k s) (shortText s):=by
  unfold impl_ShortText.f shortText
  by_cases h:s.size > 20000
  · rw [if_pos h];exact ev_pos (by omega) (Ev.now _)
  · rw [if_neg h]
    have:=varL_length s.size
    have e:varText (s.size:Int)=(strOfNums (varL s.size),true):=by unfold varText;rw [if_pos (by omega)];rfl
    have h2:=impl_varText (s.size:Int)
    rw [e] at h2
    exact ev_neg (by omega) (ev_bind h2 (ev_pos (by rw [strOfNums_size];omega) (Ev.now _)))

/-! bytes written over sectors -/
def patchM (was:ByteArray) (F:Nat) (s:ByteArray) (n:Nat):ByteArray:=(was.extract 0 F++s)++was.extract (F+n) was.size
def chunkN (t:ByteArray) (F i:Nat):Nat:=min (64 - F) (t.size - i)
def heldAt (S:List ByteArray) (C:List IPut) (k:Int):ByteArray:=lastPut C k (S.getD k.toNat ByteArray.empty)
def wbM (S:List ByteArray) (t:ByteArray):Nat→List IPut→Int→Nat→Nat→Option (List IPut)
  | 0,C,_,_,_=>some C
  | m+1,C,k,F,i=>if t.size≤i then some C else if 0≤k∧k≤(S.length:Int) - 1∧C.length < 60 then
      wbM S t m (C ++ [(⟨k,patchM (heldAt S C k) F (t.extract i (i+chunkN t F i)) (chunkN t F i)⟩:IPut)]) (k+1) 0 (i+chunkN t F i) else none
def wbEnd (S:List ByteArray) (C:List IPut):Option (List IPut)→List ByteArray×List IPut×Bool
  | some C'=>(S,C',true)
  | none=>(S,C,false)
def wbytesM (S:List ByteArray) (C:List IPut) (sector at_:Int) (t:ByteArray):List ByteArray×List IPut×Bool :=
  if (0≤at_∧at_≤6400)∧(0≤sector∧sector≤(S.length:Int) - 1) then wbEnd S C (wbM S t t.size C (sector+at_ / 64) (at_ % 64).toNat 0) else (S,C,false)
theorem lastPut_64 (C:List IPut) (i:Int) (hC:∀ p ∈ C,p.f1.size=64):∀ (d:ByteArray),d.size=64→(lastPut C i d).size=64:=by
  induction C with
  | nil=>intro d h;exact h
  | cons p C ih =>
    intro d h
    show (lastPut C i (if p.f0=i then p.f1 else d)).size=64
    refine ih (fun q hq=>hC q (by simp [hq])) _ ?_
    split
    · exact hC p (by simp)
    · exact h
theorem heldAt_64 (S:List ByteArray) (C:List IPut) (k:Int) (hd:diskOkM S C=true) (h0:0≤k) (h1:k≤(S.length:Int) - 1):(heldAt S C k).size=64:=by
  obtain⟨_,_,_,h4,h5⟩:=(diskOk_iff S C).1 hd
  refine lastPut_64 C k (fun p hp=>(h5 p hp).2.2) _ ?_
  have h2:k.toNat < S.length:=by omega
  rw [List.getD_eq_getElem?_getD,List.getElem?_eq_getElem h2,Option.getD_some]
  exact h4 _ (List.getElem_mem h2)
theorem patch_64 (was s:ByteArray) (F n:Nat) (hw:was.size=64) (hs:s.size=n) (hn:F+n≤64):(patchM was F s n).size=64:=by
  unfold patchM
  rw [ByteArray.size_append,ByteArray.size_append,ByteArray.size_extract,ByteArray.size_extract,hw,hs]
  omega
theorem chunk_size (t:ByteArray) (F i:Nat) (hi:i≤t.size):(t.extract i (i+chunkN t F i)).size=chunkN t F i:=by
  unfold chunkN
  rw [ByteArray.size_extract]
  omega
theorem chunk_facts (t:ByteArray) (F i:Nat) (hF:F < 64) (hi:i < t.size):F+chunkN t F i≤64∧i+chunkN t F i≤t.size∧1≤chunkN t F i∧(F+chunkN t F i=64∨i+chunkN t F i=t.size):=by
  unfold chunkN
  omega
theorem wbM_ok (S:List ByteArray) (t:ByteArray):∀ (m:Nat) (C:List IPut) (k:Int) (F i:Nat) (C':List IPut),F < 64→i≤t.size→diskOkM S C=true→wbM S t m C k F i=some C'→diskOkM S C'=true∧C'.length≤C.length+(F+(t.size - i)+63) / 64
  | 0,C,k,F,i,C',hF,hi,hd,h=>by
    rw [wbM] at h
    obtain rfl:=Option.some.inj h
    exact⟨hd,by omega⟩
  | m+1,C,k,F,i,C',hF,hi,hd,h=>by
    rw [wbM] at h
    by_cases c:t.size≤i
    · rw [if_pos c] at h
      obtain rfl:=Option.some.inj h
      exact⟨hd,by omega⟩
    rw [if_neg c] at h
    by_cases c2:0≤k∧k≤(S.length:Int) - 1∧C.length < 60
    · rw [if_pos c2] at h
      have hc:=chunk_size t F i hi
      have hn:=chunk_facts t F i hF (by omega)
      have hp:=patch_64 _ _ F (chunkN t F i) (heldAt_64 S C k hd c2.1 c2.2.1) hc hn.1
      have hd2:=(diskOk_snoc S C k (patchM (heldAt S C k) F (t.extract i (i+chunkN t F i)) (chunkN t F i))).2 ⟨hd,⟨c2.1,c2.2.1⟩,by omega,by omega⟩
      obtain⟨r1,r2⟩:=wbM_ok S t m _ _ 0 _ C' (by omega) (by omega) hd2 h
      refine⟨r1,?_⟩
      rw [List.length_append,List.length_singleton] at r2
      generalize chunkN t F i=n at hn r2
      omega
    · rw [if_neg c2] at h
      cases h
theorem wbytes_ok (S:List ByteArray) (C:List IPut) (sector at_:Int) (t:ByteArray) (hd:diskOkM S C=true) (B:Nat) (ht:t.size≤64 * B):(wbytesM S C sector at_ t).1=S∧diskOkM S (wbytesM S C sector at_ t).2.1=true∧(wbytesM S C sector at_ t).2.1.length≤C.length+(B+1):=by
  unfold wbytesM
  split
  · rename_i h
    cases hw:wbM S t t.size C (sector+at_ / 64) (at_ % 64).toNat 0 with
    | none=>exact⟨rfl,hd,by show C.length≤_;omega⟩
    | some C' =>
      obtain⟨r1,r2⟩:=wbM_ok S t t.size C _ (at_ % 64).toNat 0 C' (by omega) (by omega) hd hw
      exact⟨rfl,r1,by show C'.length≤_;omega⟩
  · exact⟨rfl,hd,by show C.length≤_;omega⟩
theorem readM_in (S:List ByteArray) (C:List IPut) (k:Int) (h0:0≤k) (h1:k≤(S.length:Int) - 1):readM S C k=(heldAt S C k,true):=by
  unfold readM heldAt
  rw [if_pos ⟨h0,h1⟩]
theorem readM_out (S:List ByteArray) (C:List IPut) (k:Int) (h:¬ (0≤k∧k≤(S.length:Int) - 1)):readM S C k=((⟨#[]⟩:ByteArray),false):=by
  unfold readM
  rw [if_neg h]

theorem spec_wb0 (S:List ByteArray) (C0:List IPut) (t:ByteArray) (x1 x2:Int) (h1:0≤x1∧x1≤100) (h2:0≤x2∧x2≤6400) (hS:S.length≤100) (hC0:C0.length≤60) (ht:t.size≤1099511627776) :
    ∀ (m:Nat) (C:List IPut) (k:Int) (F i:Nat),t.size - i≤m→i≤t.size→diskOkM S C=true→(t.size≤i∨(k=x1+(x2+i) / 64∧(F:Int)=(x2+i) % 64)) →
    Ev (fun q=>spec_WriteBytes.l0 q x1 x2 t (i:Int) S C0 S C) (wbEnd S C0 (wbM S t m C k F i))
  | 0,C,k,F,i,hm,hi,hd,hk=>by
    refine ev_step ?_
    simp only [spec_WriteBytes.l0]
    exact ev_neg (by omega) (Ev.now _)
  | m'+1,C,k,F,i,hm,hi,hd,hk=>by
    refine ev_step ?_
    simp only [spec_WriteBytes.l0]
    by_cases c:t.size≤i
    · have e:wbM S t (m'+1) C k F i=some C:=by rw [wbM,if_pos c]
      rw [e]
      exact ev_neg (by omega) (Ev.now _)
    obtain⟨hk1,hk2⟩:=hk.resolve_left c
    have e1:wrap64 (x2+(i:Int))=x2+i:=w64 (by omega) (by omega)
    have e2:Int.tmod (x2+(i:Int)) 64=(F:Int):=by rw [hk2];exact Int.tmod_eq_emod_of_nonneg (by omega)
    have e3:Int.tdiv (x2+(i:Int)) 64=(x2+i) / 64:=Int.tdiv_eq_ediv_of_nonneg (by omega)
    have e4:wrap64 ((x2+(i:Int)) / 64)=(x2+i) / 64:=w64 (by omega) (by omega)
    have e5:wrap64 (x1+(x2+(i:Int)) / 64)=k:=by rw [hk1];exact w64 (by omega) (by omega)
    have e6:wrap64 (64 - (F:Int))=64 - F:=w64 (by omega) (by omega)
    have e7:wrap64 ((t.size:Int) - (i:Int))=(t.size:Int) - i:=w64 (by omega) (by omega)
    have hF:F < 64:=by omega
    rw [e1,e2,e3,e4,e5,e6,e7]
    clear hk e1 e2 e3 e4 e5 e6 e7
    refine ev_pos (by omega) ?_
    have go:Ev (fun q=>spec_WriteBytes.j2 q x1 x2 t (i:Int) k (F:Int) ((chunkN t F i:Nat):Int) S C0 S C) (wbEnd S C0 (wbM S t (m'+1) C k F i)):=by
      refine ev_step ?_
      simp only [spec_WriteBytes.j2]
      have hrd:=spec_read S C k (by omega) (by have:=((diskOk_iff S C).1 hd).2.2.1;omega)
      by_cases c2:0≤k∧k≤(S.length:Int) - 1
      · rw [readM_in S C k c2.1 c2.2] at hrd
        have hw:=heldAt_64 S C k hd c2.1 c2.2
        have hsz:((heldAt S C k).size:Int)=64:=by omega
        refine ev_bind hrd (ev_pos (by first|rfl|trivial) ?_)
        show Ev (fun q=>spec_WriteBytes.j3 q x1 x2 t (i:Int) k (F:Int) ((chunkN t F i:Nat):Int) (heldAt S C k) (((heldAt S C k).size:Int) != 64) S C0 S C) _
        rw [hsz]
        refine ev_step ?_
        simp only [spec_WriteBytes.j3]
        have hn:=chunk_facts t F i hF (by omega)
        have hc:=chunk_size t F i hi
        have f1:wrap64 ((i:Int)+((chunkN t F i:Nat):Int))=((i+chunkN t F i:Nat):Int):=by rw [w64 (by omega) (by omega)];omega
        have f2:wrap64 ((F:Int)+((chunkN t F i:Nat):Int))=((F+chunkN t F i:Nat):Int):=by rw [w64 (by omega) (by omega)];omega
        rw [f1,f2]
        clear f1 f2
        simp only [Int.toNat_natCast]
        rw [hw]
        have hp:=patch_64 _ _ F (chunkN t F i) hw hc hn.1
        have hwr:=spec_write S C k (patchM (heldAt S C k) F (t.extract i (i+chunkN t F i)) (chunkN t F i)) (by omega) (by have:=((diskOk_iff S C).1 hd).2.2.1;omega)
        have hp2:patchM (heldAt S C k) F (t.extract i (i+chunkN t F i)) (chunkN t F i)=(heldAt S C k).extract 0 F++t.extract i (i+chunkN t F i)++(heldAt S C k).extract (F+chunkN t F i) 64:=by unfold patchM;rw [hw]
        have s1:((heldAt S C k).extract 0 F).size+(t.extract i (i+chunkN t F i)).size≤9223372036854775807:=by rw [ByteArray.size_extract,hc,hw];omega
        have s2:(((heldAt S C k).extract 0 F)++(t.extract i (i+chunkN t F i))).size+((heldAt S C k).extract (F+chunkN t F i) 64).size≤9223372036854775807:=by
          rw [ByteArray.size_append,ByteArray.size_extract,hc,ByteArray.size_extract,hw];omega
        refine ev_neg (by decide) (ev_pos (by omega) (ev_pos (by omega) (ev_pos (by omega) (ev_pos (by omega) (ev_pos (by omega) (ev_pos s1 (ev_pos (by omega) (ev_pos (by omega) (ev_pos s2 ?_)))))))))
        rw [← hp2,wbM,if_neg c]
        unfold writeM at hwr
        by_cases c3:C.length < 60
        · have hd2:=(diskOk_snoc S C k (patchM (heldAt S C k) F (t.extract i (i+chunkN t F i)) (chunkN t F i))).2 ⟨hd,c2,by omega,by omega⟩
          rw [if_pos hd2] at hwr
          rw [if_pos ⟨c2.1,c2.2,c3⟩]
          refine ev_bind hwr (ev_pos (by first|rfl|trivial) ?_)
          refine spec_wb0 S C0 t x1 x2 h1 h2 hS hC0 ht m' _ _ 0 _ (by omega) (by omega) hd2 ?_
          rcases hn.2.2.2 with q|q
          · refine .inr ⟨?_,?_⟩
            · rw [hk1];omega
            · omega
          · exact .inl (by omega)
        · rw [if_neg (fun h=>c3 h.2.2)]
          rw [if_neg (fun h=>by have:=((diskOk_snoc S C k _).1 h).2.2.2;omega)] at hwr
          exact ev_bind hwr (ev_neg (by simp) (ev_cbind (spec_copy S C0 (by omega) (by omega)) (Ev.now _)))
      · rw [readM_out S C k c2] at hrd
        rw [wbM,if_neg c,if_neg (fun h=>c2 ⟨h.1,h.2.1⟩)]
        refine ev_bind hrd (ev_neg (by decide) (ev_step ?_))
        simp only [spec_WriteBytes.j3]
        exact ev_pos (by first|rfl|trivial) (ev_cbind (spec_copy S C0 (by omega) (by omega)) (Ev.now _))
    by_cases c4:(64:Int) - F > (t.size:Int) - i
    · have e:(t.size:Int) - i=((chunkN t F i:Nat):Int):=by unfold chunkN;omega
      refine ev_pos c4 ?_
      rw [e]
      exact go
    · have e:(64:Int) - F=((chunkN t F i:Nat):Int):=by unfold chunkN;omega
      refine ev_neg c4 ?_
      rw [e]
      exact go
theorem spec_wb (S:List ByteArray) (C:List IPut) (sector at_:Int) (t:ByteArray) (hd:diskOkM S C=true) (ht:t.size≤1099511627776):Ev (fun k=>spec_WriteBytes.f k S C sector at_ t) (wbytesM S C sector at_ t):=by
  obtain⟨d1,d2,d3,_,_⟩:=(diskOk_iff S C).1 hd
  have hdo:=spec_diskOk S C (by omega) (by omega)
  rw [hd] at hdo
  have out:Ev (fun k=>spec_WriteBytes.j0 k sector at_ t true S C S C) (S,C,false):=by
    refine ev_step ?_
    simp only [spec_WriteBytes.j0]
    exact ev_pos (by first|rfl|trivial) (Ev.now _)
  unfold spec_WriteBytes.f wbytesM
  rw [w64 (x:=(S.length:Int) - 1) (by omega) (by omega)]
  refine ev_cbind (spec_copy S C (by omega) (by omega)) (ev_cbind (in_val _ _ _) ?_)
  by_cases c1:0≤at_∧at_≤6400
  · refine ev_pos (decide_eq_true c1) (ev_cbind (in_val _ _ _) ?_)
    by_cases c2:0≤sector∧sector≤(S.length:Int) - 1
    · rw [if_pos ⟨c1,c2⟩]
      refine ev_pos (decide_eq_true c2) (ev_bind hdo ?_)
      refine ev_step ?_
      simp only [spec_WriteBytes.j0]
      refine ev_neg (by decide) ?_
      exact spec_wb0 S C t sector at_ (by omega) c1 (by omega) (by omega) ht t.size C _ (at_ % 64).toNat 0 (by omega) (by omega) hd (.inr ⟨by simp,by simp;omega⟩)
    · rw [if_neg (fun h=>c2 h.2)]
      exact ev_neg (by rw [decide_eq_true_eq];exact c2) out
  · rw [if_neg (fun h=>c1 h.1)]
    exact ev_neg (by rw [decide_eq_true_eq];exact c1) out

theorem toList_nil {s:ByteArray} (h:s.size=0):s.toList=([]:List UInt8):=by
  have:s=⟨#[]⟩:=by
    apply ByteArray.ext
    exact Array.eq_empty_of_size_eq_zero h
  subst this
  rw [ByteArray.toList_eq]
theorem toList_some {s:ByteArray} (h:0 < s.size):¬ s.toList=([]:List UInt8):=by
  rw [ByteArray.toList_eq]
  intro h2
  have:s.data.size=0:=by rw [← Array.length_toList,h2];rfl
  have h3:s.data.size=s.size:=rfl
  omega
theorem mn_chunk (t:ByteArray) (F i:Nat) (hF:F < 64) (hi:i≤t.size):mn ((t.extract i t.size).size:Int) (wrap64 (64 - (F:Int)))=((chunkN t F i:Nat):Int):=by
  rw [w64 (by omega) (by omega),ByteArray.size_extract]
  unfold mn chunkN
  split <;> omega
theorem ext_first (t:ByteArray) (i n:Nat) (h:i+n≤t.size):(t.extract i t.size).extract 0 n=t.extract i (i+n):=by
  rw [ByteArray.extract_extract,Nat.add_zero,Nat.min_eq_left h]
theorem ext_rest (t:ByteArray) (i n:Nat) (h:i+n≤t.size):(t.extract i t.size).extract n (t.extract i t.size).size=t.extract (i+n) t.size:=by
  rw [ByteArray.extract_extract,ByteArray.size_extract]
  congr 1
  omega
theorem impl_wb0 (S:List ByteArray) (C0:List IPut) (t:ByteArray) (hS:S.length≤100) (hC0:C0.length≤60) (ht:t.size≤1099511627776) :
    ∀ (m:Nat) (C:List IPut) (k:Int) (F i:Nat),t.size - i≤m→i≤t.size→diskOkM S C=true→F < 64→(0≤k∧k≤1000) →
    Ev (fun q=>impl_WriteBytes.l0 q k (F:Int) (t.extract i t.size) S C0 S C) (wbEnd S C0 (wbM S t m C k F i))
  | 0,C,k,F,i,hm,hi,hd,hF,hk=>by
    refine ev_step ?_
    simp only [impl_WriteBytes.l0]
    exact ev_pos (toList_nil (by rw [ByteArray.size_extract];omega)) (Ev.now _)
  | m'+1,C,k,F,i,hm,hi,hd,hF,hk=>by
    refine ev_step ?_
    simp only [impl_WriteBytes.l0]
    by_cases c:t.size≤i
    · have e:wbM S t (m'+1) C k F i=some C:=by rw [wbM,if_pos c]
      rw [e]
      exact ev_pos (toList_nil (by rw [ByteArray.size_extract];omega)) (Ev.now _)
    have hn:=chunk_facts t F i hF (by omega)
    have hc:=chunk_size t F i hi
    refine ev_neg (toList_some (by rw [ByteArray.size_extract];omega)) ?_
    have hrd:=impl_read S C k (by omega) (by have:=((diskOk_iff S C).1 hd).2.2.1;omega)
    by_cases c2:0≤k∧k≤(S.length:Int) - 1
    · rw [readM_in S C k c2.1 c2.2] at hrd
      have hw:=heldAt_64 S C k hd c2.1 c2.2
      have hsz:((heldAt S C k).size:Int)=64:=by omega
      refine ev_bind hrd (ev_pos (by first|rfl|trivial) ?_)
      show Ev (fun q=>impl_WriteBytes.j2 q k (F:Int) (t.extract i t.size) (heldAt S C k) (((heldAt S C k).size:Int) != 64) S C0 S C) _
      rw [hsz]
      refine ev_step ?_
      simp only [impl_WriteBytes.j2]
      rw [mn_chunk t F i hF hi]
      have f2:wrap64 ((F:Int)+((chunkN t F i:Nat):Int))=((F+chunkN t F i:Nat):Int):=by rw [w64 (by omega) (by omega)];omega
      rw [f2]
      clear f2
      simp only [Int.toNat_natCast]
      rw [ext_first t i _ hn.2.1,ext_rest t i _ hn.2.1,hw]
      have hp:=patch_64 _ _ F (chunkN t F i) hw hc hn.1
      have hwr:=impl_write S C k (patchM (heldAt S C k) F (t.extract i (i+chunkN t F i)) (chunkN t F i)) (by omega) (by have:=((diskOk_iff S C).1 hd).2.2.1;omega)
      have hp2:patchM (heldAt S C k) F (t.extract i (i+chunkN t F i)) (chunkN t F i)=(heldAt S C k).extract 0 F++t.extract i (i+chunkN t F i)++(heldAt S C k).extract (F+chunkN t F i) 64:=by unfold patchM;rw [hw]
      have s1:((heldAt S C k).extract 0 F).size+(t.extract i (i+chunkN t F i)).size≤9223372036854775807:=by rw [ByteArray.size_extract,hc,hw];omega
      have s2:(((heldAt S C k).extract 0 F)++(t.extract i (i+chunkN t F i))).size+((heldAt S C k).extract (F+chunkN t F i) 64).size≤9223372036854775807:=by
        rw [ByteArray.size_append,ByteArray.size_extract,hc,ByteArray.size_extract,hw];omega
      have s0:(t.extract i t.size).size=t.size - i:=by rw [ByteArray.size_extract];omega
      refine ev_neg (by decide) (ev_pos (by omega) (ev_pos (by omega) (ev_pos (by omega) (ev_pos (by rw [s0];omega) (ev_pos s1 (ev_pos (by omega) (ev_pos (by omega) (ev_pos s2 ?_))))))))
      rw [← hp2,wbM,if_neg c]
      unfold writeM at hwr
      rw [w64 (x:=k+1) (by omega) (by omega)]
      by_cases c3:C.length < 60
      · have hd2:=(diskOk_snoc S C k (patchM (heldAt S C k) F (t.extract i (i+chunkN t F i)) (chunkN t F i))).2 ⟨hd,c2,by omega,by omega⟩
        rw [if_pos hd2] at hwr
        rw [if_pos ⟨c2.1,c2.2,c3⟩]
        refine ev_bind hwr (ev_pos (by first|rfl|trivial) ?_)
        exact impl_wb0 S C0 t hS hC0 ht m' _ (k+1) 0 _ (by omega) (by omega) hd2 (by omega) (by omega)
      · rw [if_neg (fun h=>c3 h.2.2)]
        rw [if_neg (fun h=>by have:=((diskOk_snoc S C k _).1 h).2.2.2;omega)] at hwr
        exact ev_bind hwr (ev_neg (by simp) (ev_cbind (impl_copy S C0 (by omega) (by omega)) (Ev.now _)))
    · rw [readM_out S C k c2] at hrd
      rw [wbM,if_neg c,if_neg (fun h=>c2 ⟨h.1,h.2.1⟩)]
      refine ev_bind hrd (ev_neg (by decide) (ev_step ?_))
      simp only [impl_WriteBytes.j2]
      exact ev_pos (by first|rfl|trivial) (ev_cbind (impl_copy S C0 (by omega) (by omega)) (Ev.now _))
theorem impl_wb (S:List ByteArray) (C:List IPut) (sector at_:Int) (t:ByteArray) (hd:diskOkM S C=true) (ht:t.size≤1099511627776):Ev (fun k=>impl_WriteBytes.f k S C sector at_ t) (wbytesM S C sector at_ t):=by
  obtain⟨d1,d2,d3,_,_⟩:=(diskOk_iff S C).1 hd
  have hcp:=impl_copy S C (by omega) (by omega)
  have out:Ev (fun k=>impl_WriteBytes.j0 k sector at_ t true S C) (S,C,false):=by
    refine ev_step ?_
    simp only [impl_WriteBytes.j0]
    exact ev_pos (by first|rfl|trivial) (ev_cbind hcp (Ev.now _))
  unfold impl_WriteBytes.f wbytesM
  rw [w64 (x:=(S.length:Int) - 1) (by omega) (by omega)]
  refine ev_cbind (within_val _ _ _) ?_
  by_cases c1:0≤at_∧at_≤6400
  · refine ev_pos (decide_eq_true c1) (ev_cbind (within_val _ _ _) ?_)
    by_cases c2:0≤sector∧sector≤(S.length:Int) - 1
    · rw [if_pos ⟨c1,c2⟩,decide_eq_true c2]
      refine ev_step ?_
      simp only [impl_WriteBytes.j0]
      have e1:Int.tdiv at_ 64=at_ / 64:=Int.tdiv_eq_ediv_of_nonneg c1.1
      have e2:Int.tmod at_ 64=((at_ % 64).toNat:Int):=by rw [Int.tmod_eq_emod_of_nonneg c1.1];omega
      rw [e1,e2,w64 (x:=at_ / 64) (by omega) (by omega),w64 (x:=sector+at_ / 64) (by omega) (by omega)]
      have h:=impl_wb0 S C t (by omega) (by omega) ht t.size C (sector+at_ / 64) (at_ % 64).toNat 0 (by omega) (by omega) hd (by omega) (by omega)
      rw [ByteArray.extract_zero_size] at h
      exact ev_neg (by decide) (ev_cbind hcp h)
    · rw [if_neg (fun h=>c2 h.2),decide_eq_false c2]
      exact out
  · rw [if_neg (fun h=>c1 h.1)]
    exact ev_neg (by rw [decide_eq_true_eq];exact c1) out

/-! a record is put behind those of an area -/
theorem logOk_iff (S:List ByteArray) (C:List IPut):logOkM S C=true ↔ (diskOkM S C=true∧S.length=97∧C=[]∧(readAreaM S C 0).2.2=true∧(readAreaM S C 1).2.2=true):=by
  unfold logOkM
  rw [Bool.and_eq_true,Bool.and_eq_true,Bool.and_eq_true,Bool.and_eq_true,decide_eq_true_eq,decide_eq_true_eq]
  have e:(C.length:Int)=0 ↔ C=[]:=by
    constructor
    · intro h;exact List.length_eq_zero_iff.1 (by omega)
    · intro h;rw [h];rfl
  rw [e]
  constructor
  · rintro⟨a,b,c,d,e⟩;exact⟨a,by omega,c,d,e⟩
  · rintro⟨a,b,c,d,e⟩;exact⟨a,by omega,c,d,e⟩
theorem readShort_next (s:ByteArray) (a:Int) (h:(readShortM s a).2.2=true):0≤a∧a < (readShortM s a).2.1∧(readShortM s a).2.1≤(s.size:Int):=by
  unfold readShortM at h ⊢
  by_cases c:(readVarM s a).2.2=true∧(readVarM s a).1≤20000∧(readVarM s a).1≤(s.size:Int) - (readVarM s a).2.1
  · obtain⟨b0,b1,b2,b3,b4⟩:=readVarM_bounds s a c.1
    rw [if_pos c]
    refine⟨b0,?_,?_⟩
    · show a < (readVarM s a).2.1+(readVarM s a).1
      omega
    · show (readVarM s a).2.1+(readVarM s a).1≤(s.size:Int)
      omega
  · rw [if_neg c] at h
    cases h
theorem readRecs_at (t:ByteArray):∀ (d:Nat) (a:Int) (acc:List ByteArray),0≤a→a≤(t.size:Int)→(readRecs t d a acc).2.2=true→0≤(readRecs t d a acc).2.1∧(readRecs t d a acc).2.1≤(t.size:Int)
  | 0,a,acc,h0,h1,_=>⟨h0,h1⟩
  | d+1,a,acc,h0,h1,h=>by
    rw [readRecs] at h ⊢
    by_cases c:(readShortM t a).2.2=true
    · rw [if_pos c] at h ⊢
      by_cases c2:(readShortM t a).1.toList=([]:List UInt8)
      · rw [if_pos c2] at h;cases h
      · rw [if_neg c2] at h ⊢
        have hb:=readShort_next t a c
        exact readRecs_at t d _ _ (by omega) hb.2.2 h
    · rw [if_neg c] at h;cases h
theorem secText_64 (S:List ByteArray) (C:List IPut) (f:Int) (hs:∀ s ∈ S,s.size≤64) (hp:∀ p ∈ C,p.f1.size≤64):∀ (d:Nat) (i:Int) (acc:ByteArray),(secText S C f d i acc).1.size≤acc.size+d * 64:=by
  intro d
  induction d with
  | zero=>intro i acc;simp [secText]
  | succ d ih =>
    intro i acc
    unfold secText
    split
    · refine Nat.le_trans (ih _ _) ?_
      have:=readM_size S C (f+i) 64 hs hp
      rw [ByteArray.size_append];omega
    · show 0≤_;omega
/-- What stands behind the texts of an area. -/
theorem area_at (S:List ByteArray) (C:List IPut) (a:Int) (hd:diskOkM S C=true) (h:(readAreaM S C a).2.2=true):(0≤a∧a≤1)∧0≤(readAreaM S C a).2.1∧(readAreaM S C a).2.1≤3008:=by
  obtain⟨_,_,_,d4,d5⟩:=(diskOk_iff S C).1 hd
  unfold readAreaM at h ⊢
  by_cases c:0≤a∧a≤1
  · rw [if_pos c] at h ⊢
    by_cases c2:(areaText S C a).2=true
    · rw [if_pos c2] at h ⊢
      have hz:(areaText S C a).1.size≤3008:=by
        unfold areaText sectorTextM
        rw [if_pos (by decide)]
        have h2:=secText_64 S C (areaFirstM a+1) (fun s hs=>Nat.le_of_eq (d4 s hs)) (fun p hp=>Nat.le_of_eq (d5 p hp).2.2) 47 0 (⟨#[]⟩:ByteArray)
        exact h2
      have h3:=readRecs_at _ _ 0 [] (by omega) (by omega) h
      exact⟨c,h3.1,by omega⟩
    · rw [if_neg c2] at h;cases h
  · rw [if_neg c] at h;cases h
def begM (S:List ByteArray) (a:Int) (t:ByteArray):List ByteArray×List IPut×Bool :=
  if 0 < t.size∧(readAreaM S [] a).2.1+((varL t.size).length+t.size:Nat)≤3008∧countM S [] a < 255 then wbytesM S [] (areaFirstM a+1) (readAreaM S [] a).2.1 (strOfNums (varL t.size)++t) else (S,[],false)
def oneM (n:Int):ByteArray:=strOfNums [n % 256]
def put1M (S:List ByteArray) (k:Int) (s:ByteArray):List ByteArray:=putAll S [(⟨k,patchM (heldAt S [] k) 0 (s.extract 0 1) 1⟩:IPut)]
def putM (S:List ByteArray) (a:Int) (t:ByteArray):List ByteArray×List IPut×Bool :=
  if (begM S a t).2.2=true then (put1M (putAll S (begM S a t).2.1) (areaFirstM a) (oneM (countM S [] a+1)),[],true) else (S,[],false)
def putRecM (S:List ByteArray) (C:List IPut) (a:Int) (t:ByteArray):List ByteArray×List IPut×Bool :=
  if logOkM S C=true∧0≤a∧a≤1 then putM S a t else (S,C,false)
theorem one_size (n:Int):(oneM n).size=1:=by rw [oneM,strOfNums_size];rfl
theorem one_wb (S:List ByteArray) (k:Int) (s:ByteArray) (hs:s.size=1) (h0:0≤k) (h1:k≤(S.length:Int) - 1):wbytesM S [] k 0 s=(S,[(⟨k,patchM (heldAt S [] k) 0 (s.extract 0 1) 1⟩:IPut)],true):=by
  have hc:chunkN s 0 0=1:=by unfold chunkN;rw [hs];rfl
  have e1:k+0 / 64=k:=by omega
  have e2:((0:Int) % 64).toNat=0:=rfl
  unfold wbytesM
  rw [if_pos ⟨by decide,h0,h1⟩,e1,e2,hs,wbM,if_neg (by omega),if_pos ⟨h0,h1,by decide⟩,wbM,hc]
  rfl
theorem put1_ok (S:List ByteArray) (k:Int) (s:ByteArray) (hs:s.size=1) (hd:diskOkM S []=true) (h0:0≤k) (h1:k≤(S.length:Int) - 1):flushM S [(⟨k,patchM (heldAt S [] k) 0 (s.extract 0 1) 1⟩:IPut)]=(put1M S k s,[])∧diskOkM (put1M S k s) []=true:=by
  have hp:(patchM (heldAt S [] k) 0 (s.extract 0 1) 1).size=64:=patch_64 _ _ 0 1 (heldAt_64 S [] k hd h0 h1) (by rw [ByteArray.size_extract,hs];rfl) (by decide)
  have h:=(diskOk_snoc S [] k (patchM (heldAt S [] k) 0 (s.extract 0 1) 1)).2 ⟨hd,⟨h0,h1⟩,by omega,by decide⟩
  exact flush_ok S _ h
theorem beg_ok (S:List ByteArray) (a:Int) (t:ByteArray) (hd:diskOkM S []=true):(begM S a t).1=S∧diskOkM S (begM S a t).2.1=true∧((begM S a t).2.2=true→countM S [] a < 255∧0 < t.size):=by
  unfold begM
  split
  · rename_i h
    obtain⟨w1,w2,_⟩:=wbytes_ok S [] (areaFirstM a+1) (readAreaM S [] a).2.1 (strOfNums (varL t.size)++t) hd (strOfNums (varL t.size)++t).size (by omega)
    exact⟨w1,w2,fun _=>⟨h.2.2,h.1⟩⟩
  · exact⟨rfl,hd,fun h=>by cases h⟩
theorem areaFirst_in (a:Int) (h:0≤a∧a≤1):areaFirstM a=1+a * 48:=by unfold areaFirstM;rw [if_pos h]
theorem putRec_lens (S:List ByteArray) (C:List IPut) (a:Int) (t:ByteArray):(putRecM S C a t).1.length=S.length∧(putRecM S C a t).2.1.length≤C.length:=by
  unfold putRecM
  split
  · unfold putM
    split
    · refine⟨?_,Nat.zero_le _⟩
      show (put1M (putAll S _) _ _).length=S.length
      unfold put1M
      rw [putAll_length,putAll_length]
    · exact⟨rfl,Nat.zero_le _⟩
  · exact⟨rfl,Nat.le_refl _⟩

theorem impl_putText_out (S:List ByteArray) (C:List IPut) (a x:Int) (s:ByteArray) (hS:S.length≤1099511627776) (hC:C.length≤1099511627776):Ev (fun k=>impl_putText.j0 k a x s true S C) (S,C,false):=by
  refine ev_step ?_
  simp only [impl_putText.j0]
  exact ev_pos (by first|rfl|trivial) (ev_cbind (impl_copy S C hS hC) (Ev.now _))
theorem short_small (t:ByteArray) (h:¬ t.size > 20000):shortText t=(strOfNums (varL t.size)++t,true):=by unfold shortText;rw [if_neg h]
theorem impl_putText_ok (S:List ByteArray) (C:List IPut) (a:Int) (t:ByteArray) (hS:S.length≤1048576) (hC:C.length≤1048576) (hs:∀ s ∈ S,s.size≤1048576) (hp:∀ p ∈ C,p.f1.size≤1048576) :
    Ev (fun k=>impl_putText.f k S C a t) (if logOkM S C=true∧0≤a∧a≤1 then begM S a t else (S,C,false)):=by
  have hR:=impl_readArea S C a (by omega) (by omega) hs hp
  have hT:=impl_shortText t
  have hL:=impl_logOk S C (by omega) (by omega) hs hp
  have out:=fun x s=>impl_putText_out S C a x s (by omega) (by omega)
  unfold impl_putText.f
  refine ev_bind hR (ev_bind hT (ev_bind hL ?_))
  by_cases c0:logOkM S C=true
  · obtain⟨l1,l2,rfl,l4,l5⟩:=(logOk_iff S C).1 c0
    refine ev_pos c0 ?_
    by_cases c1:0≤a∧a≤1
    · rw [if_pos ⟨c0,c1⟩]
      have hr:(readAreaM S [] a).2.2=true:=by
        rcases (show a=0∨a=1 by omega) with rfl|rfl
        · exact l4
        · exact l5
      obtain⟨_,r1,r2⟩:=area_at S [] a l1 hr
      refine ev_pos hr ?_
      unfold begM
      by_cases c2:t.size > 20000
      · rw [if_neg (fun h=>by have:=h.2.1;omega)]
        have e:shortText t=((⟨#[]⟩:ByteArray),false):=by unfold shortText;rw [if_pos c2]
        rw [e]
        exact ev_neg (by simp) (out _ _)
      rw [short_small t c2]
      refine ev_pos (by first|rfl|trivial) ?_
      by_cases c3:t.size=0
      · rw [if_neg (fun h=>by omega)]
        exact ev_pos (toList_nil c3) (out _ _)
      refine ev_neg (toList_some (by omega)) ?_
      have hz:((strOfNums (varL t.size)++t).size:Int)=(((varL t.size).length+t.size:Nat):Int):=by rw [ByteArray.size_append,strOfNums_size]
      have hv:=varL_length t.size
      show Ev (fun k=>if wrap64 ((readAreaM S [] a).2.1+((strOfNums (varL t.size)++t).size:Int)) > 3008 then _ else _) _
      rw [hz,w64 (by omega) (by omega)]
      by_cases c4:(readAreaM S [] a).2.1+(((varL t.size).length+t.size:Nat):Int) > 3008
      · rw [if_neg (fun h=>by have:=h.2.1;omega)]
        exact ev_pos c4 (out _ _)
      refine ev_neg c4 (ev_bind (impl_count S [] a (by omega) (by omega)) ?_)
      have hn:=countM_range S [] a
      by_cases c5:countM S [] a=255
      · rw [if_neg (fun h=>by have:=h.2.2;omega)]
        have e:(countM S [] a==255)=true:=by rw [c5];rfl
        rw [e]
        exact out _ _
      · rw [if_pos ⟨by omega,by omega,by omega⟩]
        have e:(countM S [] a==255)=false:=beq_eq_false_iff_ne.2 c5
        rw [e]
        refine ev_step ?_
        simp only [impl_putText.j0]
        have hf:=areaFirst_in a c1
        have e1:wrap64 (areaFirstM a+1)=areaFirstM a+1:=w64 (by omega) (by omega)
        refine ev_neg (by decide) (ev_cbind (impl_areaFirst a) ?_)
        rw [e1]
        exact ev_bind (impl_wb S [] _ _ _ l1 (by omega)) (Ev.now _)
    · rw [if_neg (fun h=>c1 h.2)]
      have hr:¬ (readAreaM S [] a).2.2=true:=by unfold readAreaM;rw [if_neg c1];simp
      exact ev_neg hr (out _ _)
  · rw [if_neg (fun h=>c0 h.1)]
    exact ev_neg c0 (out _ _)
theorem impl_putCount_ok (S:List ByteArray) (a n:Int) (hd:diskOkM S []=true) (hS:S.length=97) (ha:0≤a∧a≤1):Ev (fun k=>impl_putCount.f k S [] a n) (S,[(⟨areaFirstM a,patchM (heldAt S [] (areaFirstM a)) 0 ((oneM n).extract 0 1) 1⟩:IPut)]):=by
  have hf:=areaFirst_in a ha
  have h:=impl_wb S [] (areaFirstM a) 0 (oneM n) hd (by rw [one_size];omega)
  rw [one_wb S (areaFirstM a) (oneM n) (one_size n) (by omega) (by omega)] at h
  unfold impl_putCount.f
  exact ev_cbind (impl_areaFirst a) (ev_bind h (Ev.now _))
theorem impl_put (S:List ByteArray) (C:List IPut) (a:Int) (t:ByteArray) (hS:S.length≤1048576) (hC:C.length≤1048576) (hs:∀ s ∈ S,s.size≤1048576) (hp:∀ p ∈ C,p.f1.size≤1048576):Ev (fun k=>impl_PutRecord.f k S C a t) (putRecM S C a t):=by
  have h:=impl_putText_ok S C a t hS hC hs hp
  have hcp:=impl_copy S C (by omega) (by omega)
  unfold impl_PutRecord.f putRecM
  by_cases c:logOkM S C=true∧0≤a∧a≤1
  · rw [if_pos c] at h ⊢
    obtain⟨l1,l2,rfl,l4,l5⟩:=(logOk_iff S C).1 c.1
    obtain⟨b1,b2,b3⟩:=beg_ok S a t l1
    unfold putM
    generalize begM S a t=B at h b1 b2 b3
    obtain⟨B1,B2,B3⟩:=B
    simp only at b1 b2 b3
    subst b1
    refine ev_bind h ?_
    by_cases c2:B3=true
    · obtain⟨b4,_⟩:=b3 c2
      have hn:=countM_range B1 [] a
      obtain⟨f1,f2⟩:=flush_ok B1 B2 b2
      have d2:=(diskOk_iff _ _).1 b2
      have e1:=impl_flush B1 B2 (by omega) (by omega)
      rw [f1] at e1
      have hl:=putAll_length B1 B2
      have hf:=areaFirst_in a c.2
      have e2:=impl_putCount_ok (putAll B1 B2) a (countM B1 [] a+1) f2 (by omega) c.2
      obtain⟨f3,f4⟩:=put1_ok (putAll B1 B2) (areaFirstM a) (oneM (countM B1 [] a+1)) (one_size _) f2 (by omega) (by omega)
      have e3:=impl_flush (putAll B1 B2) [(⟨areaFirstM a,patchM (heldAt (putAll B1 B2) [] (areaFirstM a)) 0 ((oneM (countM B1 [] a+1)).extract 0 1) 1⟩:IPut)] (by omega) (by simp)
      rw [f3] at e3
      rw [if_pos (show (B1,B2,B3).2.2=true from c2)]
      refine ev_pos c2 (ev_bind e1 (ev_bind (impl_count B1 [] a (by omega) (by omega)) ?_))
      rw [w64 (x:=countM B1 [] a+1) (by omega) (by omega)]
      exact ev_bind e2 (ev_bind e3 (Ev.now _))
    · rw [if_neg (show ¬ (B1,B2,B3).2.2=true from c2)]
      exact ev_neg c2 (ev_cbind hcp (Ev.now _))
  · rw [if_neg c] at h ⊢
    exact ev_bind h (ev_neg (by simp) (ev_cbind hcp (Ev.now _)))

theorem spec_begin_out (S:List ByteArray) (a x:Int) (t:ByteArray) (hS:S.length≤1099511627776):Ev (fun k=>spec_l04Begin.j0 k a t x true S []) (S,[],false):=by
  refine ev_step ?_
  simp only [spec_l04Begin.j0]
  exact ev_pos (by first|rfl|trivial) (ev_cbind (spec_copy S [] hS (by simp)) (Ev.now _))
theorem spec_begin_ok (S:List ByteArray) (a:Int) (t:ByteArray) (hl:logOkM S []=true) (ha:0≤a∧a≤1) (ht:t.size≤1048576) (hs:∀ s ∈ S,s.size≤1048576):Ev (fun k=>spec_l04Begin.f k S [] a t) (begM S a t):=by
  obtain⟨l1,l2,_,l4,l5⟩:=(logOk_iff S []).1 hl
  have hR:=spec_readArea S [] a (by omega) (by simp) hs (fun p hp=>by cases hp)
  have hr:(readAreaM S [] a).2.2=true:=by
    rcases (show a=0∨a=1 by omega) with rfl|rfl
    · exact l4
    · exact l5
  obtain⟨_,r1,r2⟩:=area_at S [] a l1 hr
  have out:=fun x=>spec_begin_out S a x t (by omega)
  have hn:=countM_range S [] a
  unfold spec_l04Begin.f begM
  refine ev_bind hR (ev_pos hr ?_)
  by_cases c3:t.size=0
  · rw [if_neg (fun h=>by omega)]
    exact ev_pos (toList_nil c3) (out _)
  refine ev_neg (toList_some (by omega)) ?_
  by_cases c2:(t.size:Int) > 3008
  · rw [if_neg (fun h=>by have:=h.2.1;omega)]
    exact ev_pos c2 (out _)
  refine ev_neg c2 (ev_bind (spec_count S [] a (by omega) (by simp)) ?_)
  by_cases c5:countM S [] a≥255
  · rw [if_neg (fun h=>by have:=h.2.2;omega),decide_eq_true c5]
    exact out _
  rw [decide_eq_false c5]
  refine ev_step ?_
  simp only [spec_l04Begin.j0]
  have hz:((strOfNums (varL t.size)++t).size:Int)=(((varL t.size).length+t.size:Nat):Int):=by rw [ByteArray.size_append,strOfNums_size]
  have hv:=varL_length t.size
  have hz2:(strOfNums (varL t.size)).size+t.size≤9223372036854775807:=by rw [strOfNums_size];omega
  rw [w64 (x:=3008 - (readAreaM S [] a).2.1) (by omega) (by omega)]
  refine ev_neg (by decide) (ev_bind (spec_var t.size (by omega)) (ev_pos hz2 ?_))
  rw [hz]
  by_cases c4:(((varL t.size).length+t.size:Nat):Int) > 3008 - (readAreaM S [] a).2.1
  · rw [if_neg (fun h=>by have:=h.2.1;omega)]
    exact ev_pos c4 (ev_cbind (spec_copy S [] (by omega) (by simp)) (Ev.now _))
  · rw [if_pos ⟨by omega,by omega,by omega⟩]
    have hf:=areaFirst_in a ha
    have e1:wrap64 (areaFirstM a+1)=areaFirstM a+1:=w64 (by omega) (by omega)
    refine ev_neg c4 (ev_cbind (spec_areaFirst a) ?_)
    rw [e1]
    exact ev_bind (spec_wb S [] _ _ _ l1 (by omega)) (Ev.now _)
theorem spec_countPut (S:List ByteArray) (a n:Int) (hd:diskOkM S []=true) (hS:S.length=97) (ha:0≤a∧a≤1):Ev (fun k=>spec_l04Count.f k S [] a n) (S,[(⟨areaFirstM a,patchM (heldAt S [] (areaFirstM a)) 0 ((oneM n).extract 0 1) 1⟩:IPut)],true):=by
  have hf:=areaFirst_in a ha
  have h:=spec_wb S [] (areaFirstM a) 0 (oneM n) hd (by rw [one_size];omega)
  rw [one_wb S (areaFirstM a) (oneM n) (one_size n) (by omega) (by omega)] at h
  unfold spec_l04Count.f
  exact ev_cbind (spec_areaFirst a) (ev_cbind rfl (ev_bind h (Ev.now _)))
theorem spec_put1 (S:List ByteArray) (a:Int) (t:ByteArray) (hl:logOkM S []=true) (ha:0≤a∧a≤1) (ht:t.size≤1048576) (hs:∀ s ∈ S,s.size≤1048576):Ev (fun k=>spec_l04Put.f k S [] a t) (putM S a t):=by
  have h:=spec_begin_ok S a t hl ha ht hs
  obtain⟨l1,l2,_,l4,l5⟩:=(logOk_iff S []).1 hl
  obtain⟨b1,b2,b3⟩:=beg_ok S a t l1
  have bf:(begM S a t).2.2=false→begM S a t=(S,(begM S a t).2.1,false):=fun h=>by
    rw [← h];exact Prod.ext b1 rfl
  have bn:(begM S a t).2.2=false→(begM S a t).2.1=[]:=fun h=>by
    unfold begM at h ⊢
    split
    · rename_i c
      rw [if_pos c] at h
      unfold wbytesM at h ⊢
      split
      · rename_i c2
        rw [if_pos c2] at h
        generalize wbM S _ _ _ _ _ _=o at h
        cases o with
        | none=>rfl
        | some x=>cases h
      · rfl
    · rfl
  unfold spec_l04Put.f putM
  refine ev_bind h ?_
  by_cases c2:(begM S a t).2.2=true
  · rw [if_pos c2]
    obtain⟨b4,_⟩:=b3 c2
    have hn:=countM_range S [] a
    generalize begM S a t=B at b1 b2 c2
    obtain⟨B1,B2,B3⟩:=B
    simp only at b1 b2 c2
    subst b1
    obtain⟨f1,f2⟩:=flush_ok B1 B2 b2
    have d2:=(diskOk_iff _ _).1 b2
    have e1:=spec_flush B1 B2 (by omega) (by omega)
    rw [f1] at e1
    have hl2:=putAll_length B1 B2
    have hf:=areaFirst_in a ha
    have e2:=spec_countPut (putAll B1 B2) a (countM B1 [] a+1) f2 (by omega) ha
    obtain⟨f3,f4⟩:=put1_ok (putAll B1 B2) (areaFirstM a) (oneM (countM B1 [] a+1)) (one_size _) f2 (by omega) (by omega)
    have e3:=spec_flush (putAll B1 B2) [(⟨areaFirstM a,patchM (heldAt (putAll B1 B2) [] (areaFirstM a)) 0 ((oneM (countM B1 [] a+1)).extract 0 1) 1⟩:IPut)] (by omega) (by simp)
    rw [f3] at e3
    refine ev_pos c2 (ev_bind e1 (ev_bind (spec_count B1 [] a (by omega) (by simp)) ?_))
    rw [w64 (x:=countM B1 [] a+1) (by omega) (by omega)]
    exact ev_bind e2 (ev_bind e3 (Ev.now _))
  · rw [if_neg c2]
    have c3:(begM S a t).2.2=false:=by simpa using c2
    refine ev_neg c2 (ev_now ?_)
    rw [b1,bn c3]

theorem spec_put (S:List ByteArray) (C:List IPut) (a:Int) (t:ByteArray) (hS:S.length≤1048576) (hC:C.length≤1048576) (hs:∀ s ∈ S,s.size≤1048576) (hp:∀ p ∈ C,p.f1.size≤1048576) (ht:t.size≤1048576):Ev (fun k=>spec_PutRecord.f k S C a t) (putRecM S C a t):=by
  have hL:=spec_logOk S C (by omega) (by omega) hs hp
  have hcp:=spec_copy S C (by omega) (by omega)
  have out:Ev (fun k=>spec_PutRecord.j0 k a t true S C) (S,C,false):=by
    refine ev_step ?_
    simp only [spec_PutRecord.j0]
    exact ev_pos (by first|rfl|trivial) (ev_cbind hcp (Ev.now _))
  unfold spec_PutRecord.f putRecM
  refine ev_bind hL ?_
  by_cases c0:logOkM S C=true
  · refine ev_pos c0 (ev_cbind (in_val _ _ _) ?_)
    by_cases c1:0≤a∧a≤1
    · rw [if_pos ⟨c0,c1⟩,decide_eq_true c1]
      obtain⟨l1,l2,rfl,l4,l5⟩:=(logOk_iff S C).1 c0
      have h:=spec_put1 S a t c0 c1 ht hs
      refine ev_step ?_
      simp only [spec_PutRecord.j0]
      have h3:(putM S a t).2.2=true→putM S a t=((putM S a t).1,(putM S a t).2.1,true):=fun h=>by rw [← h]
      have h4:¬ (putM S a t).2.2=true→putM S a t=(S,[],false):=fun h=>by
        unfold putM at h ⊢
        split
        · rename_i c
          rw [if_pos c] at h
          exact absurd rfl h
        · rfl
      refine ev_neg (by decide) (ev_bind h ?_)
      by_cases c2:(putM S a t).2.2=true
      · exact ev_pos c2 (ev_now (h3 c2).symm)
      · rw [h4 c2]
        exact ev_neg (by simp) (ev_cbind hcp (Ev.now _))
    · rw [if_neg (fun h=>c1 h.2),decide_eq_false c1]
      exact out
  · rw [if_neg (fun h=>c0 h.1)]
    exact ev_neg c0 out


def appendM (S:List ByteArray) (C:List IPut) (t:ByteArray):List ByteArray×List IPut×Bool:=putRecM S C (activeM S C) t
theorem impl_append (S:List ByteArray) (C:List IPut) (t:ByteArray) (hS:S.length≤1048576) (hC:C.length≤1048576) (hs:∀ s ∈ S,s.size≤1048576) (hp:∀ p ∈ C,p.f1.size≤1048576):Ev (fun k=>impl_AppendLog.f k S C t) (appendM S C t):=by
  unfold impl_AppendLog.f
  exact ev_bind (impl_active S C (by omega) (by omega)) (ev_bind (impl_put S C _ t hS hC hs hp) (Ev.now _))

theorem spec_append (S:List ByteArray) (C:List IPut) (t:ByteArray) (hS:S.length≤1048576) (hC:C.length≤1048576) (hs:∀ s ∈ S,s.size≤1048576) (hp:∀ p ∈ C,p.f1.size≤1048576) (ht:t.size≤1048576):Ev (fun k=>spec_AppendLog.f k S C t) (appendM S C t):=by
  unfold spec_AppendLog.f
  exact ev_bind (spec_active S C (by omega) (by omega)) (ev_bind (spec_put S C _ t hS hC hs hp ht) (Ev.now _))

/-! what was written as a number, or as a short text, is read back -/
theorem varL_pos (n:Nat):1≤(varL n).length:=by
  rw [varL]
  split <;> simp
theorem bytesAt_cons (s:ByteArray) (a m:Nat):bytesAt s a (m+1)=bt s ((a:Nat):Int) :: bytesAt s (a+1) m:=by
  unfold bytesAt
  rw [List.range_succ_eq_map,List.map_cons,List.map_map]
  congr 1
  refine List.map_congr_left fun j _=>?_
  show bt s ((a+(j+1):Nat):Int)=_
  rw [show a+(j+1)=a+1+j by omega]
theorem rv_back (s:ByteArray) (a:Nat):∀ (d i n v:Nat),(varL v).length≤d→a+i+(varL v).length≤s.size→bytesAt s (a+i) (varL v).length=varL v→n+v * 128 ^ i≤1000000000→(varL (n+v * 128 ^ i)).length=i+(varL v).length →
    rv s a d i n=(((n+v * 128 ^ i:Nat):Int),((a+i+(varL v).length:Nat):Int),true)
  | 0,i,n,v,h,_,_,_,_=>absurd (varL_pos v) (by omega)
  | d+1,i,n,v,h,h1,h2,h3,h4=>by
    have hp:128 ^ (i+1)=128 ^ i * 128:=Nat.pow_succ ..
    rw [rv]
    by_cases c:v > 127
    · have e:varL v=((v % 128+128:Nat):Int) :: varL (v / 128):=by rw [varL,if_pos c]
      have el:(varL v).length=(varL (v / 128)).length+1:=by rw [e];simp
      rw [el] at h h1 h2 h4 ⊢
      rw [e,bytesAt_cons] at h2
      obtain⟨b1,b2⟩:=List.cons.inj h2
      have ev:n+v % 128 * 128 ^ i+v / 128 * 128 ^ (i+1)=n+v * 128 ^ i:=by
        rw [hp]
        have e3:v * 128 ^ i=(v % 128+v / 128 * 128) * 128 ^ i:=congrArg (· * 128 ^ i) (by omega)
        rw [e3,Nat.add_mul,Nat.mul_assoc,Nat.mul_comm 128 (128 ^ i)]
        omega
      have e2:(((v % 128+128:Nat):Int)).toNat % 128=v % 128:=by omega
      have ih:=rv_back s a d (i+1) (n+v % 128 * 128 ^ i) (v / 128) (by omega) (by omega) (by rw [← Nat.add_assoc];exact b2) (by rw [ev];exact h3) (by rw [ev,h4];omega)
      rw [ev] at ih
      rw [if_pos (by omega),b1,if_neg (by omega),e2,ih,show a+(i+1)+(varL (v / 128)).length=a+i+((varL (v / 128)).length+1) by omega]
    · have e:varL v=[(v:Int)]:=by rw [varL,if_neg c]
      have el:(varL v).length=1:=by rw [e];rfl
      rw [el] at h1 h2 h4 ⊢
      rw [e,bytesAt_cons] at h2
      obtain⟨b1,_⟩:=List.cons.inj h2
      have e2:((v:Int)).toNat % 128=v:=by omega
      rw [if_pos (by omega),b1,if_pos (by omega),e2,if_pos ⟨h3,h4⟩]
theorem varL_len (q:Nat) (h:q≤1000000000):(varL q).length≤5:=by
  have st:∀ m B:Nat,(∀ v,v < B→(varL v).length≤m)→∀ v,v < B * 128→(varL v).length≤m+1:=by
    intro m B hB v hv
    rw [varL]
    split
    · have:=hB (v / 128) (by omega)
      simp;omega
    · simp
  have h1:∀ v,v < 128→(varL v).length≤1:=by
    intro v hv
    rw [varL,if_neg (by omega)]
    simp
  exact st 4 _ (st 3 _ (st 2 _ (st 1 _ h1))) q (by omega)
theorem readVar_back (s:ByteArray) (a q:Nat) (hq:q≤1000000000) (h1:a+(varL q).length≤s.size) (h2:bytesAt s a (varL q).length=varL q):readVarM s (a:Int)=((q:Int),((a+(varL q).length:Nat):Int),true):=by
  unfold readVarM
  rw [if_pos (by omega),Int.toNat_natCast]
  have:=rv_back s a 5 0 0 q (varL_len q hq) (by omega) h2 (by omega) (by rw [Nat.pow_zero,Nat.mul_one,Nat.zero_add,Nat.zero_add])
  rw [Nat.pow_zero,Nat.mul_one,Nat.zero_add] at this
  exact this
theorem rv_fwd (s:ByteArray) (a:Nat):∀ (d i n:Nat),Behind s a i n→(rv s a d i n).2.2=true→∃ q,q≤1000000000∧bytesAt s a (varL q).length=varL q∧a+(varL q).length≤s.size∧rv s a d i n=((q:Int),((a+(varL q).length:Nat):Int),true)
  | 0,i,n,_,h=>by simp [rv] at h
  | d+1,i,n,hb,h=>by
    have hr:=bt_range s ((a+i:Nat):Int)
    rw [rv] at h ⊢
    by_cases c1:a+i < s.size
    · rw [if_pos c1] at h ⊢
      by_cases c2:bt s ((a+i:Nat):Int) < 128
      · rw [if_pos c2] at h ⊢
        have hch:=hb [bt s ((a+i:Nat):Int)] ⟨hr.1,c2⟩
        rw [← bytesAt_succ] at hch
        have hv:valL [bt s ((a+i:Nat):Int)]=(bt s ((a+i:Nat):Int)).toNat % 128:=by simp only [valL];omega
        rw [hv] at hch
        generalize n+(bt s ((a+i:Nat):Int)).toNat % 128 * 128 ^ i=M at h hch ⊢
        by_cases c3:M≤1000000000∧(varL M).length=i+1
        · rw [if_pos c3]
          have hvl:=varL_val _ hch.1
          rw [hch.2] at hvl
          have hlen:(bytesAt s a (i+1)).length=i+1:=by simp [bytesAt]
          rw [hlen] at hvl
          have he:varL M=bytesAt s a (i+1):=hvl.resolve_right (by omega)
          refine⟨M,c3.1,?_,by omega,?_⟩
          · rw [c3.2];exact he.symm
          · rw [c3.2,Nat.add_assoc]
        · rw [if_neg c3] at h;cases h
      · rw [if_neg c2] at h ⊢
        exact rv_fwd s a d (i+1) _ (behind_succ s a i n hb c2) h
    · rw [if_neg c1] at h;cases h
theorem readVar_fwd (s:ByteArray) (a:Int) (h:(readVarM s a).2.2=true):∃ a' q:Nat,a=a'∧q≤1000000000∧bytesAt s a' (varL q).length=varL q∧a'+(varL q).length≤s.size∧readVarM s a=((q:Int),((a'+(varL q).length:Nat):Int),true):=by
  unfold readVarM at h ⊢
  by_cases c:0≤a∧a≤(s.size:Int)
  · rw [if_pos c] at h ⊢
    obtain⟨q,h1,h2,h3,h4⟩:=rv_fwd s a.toNat 5 0 0 (behind_zero s _) h
    exact⟨a.toNat,q,by omega,h1,h2,h3,h4⟩
  · rw [if_neg c] at h;cases h
/-- The bytes of x stand in t at a. -/
def Has (t:ByteArray) (a:Nat) (x:ByteArray):Prop:=a+x.size≤t.size∧∀ j:Nat,j < x.size→bt t ((a+j:Nat):Int)=bt x (j:Int)
theorem bt_ext {x y:ByteArray} (h:x.size=y.size) (hj:∀ j:Nat,j < x.size→bt x (j:Int)=bt y (j:Int)):x=y:=by
  apply ByteArray.ext
  apply Array.ext
  · exact h
  · intro i h1 h2
    have:=hj i h1
    rw [bt_nat x i h1,bt_nat y i h2] at this
    exact UInt8.toNat_inj.1 (Int.ofNat_inj.1 this)
theorem bt_app (x y:ByteArray) (j:Nat) (hj:j < x.size+y.size):bt (x++y) (j:Int)=if j < x.size then bt x (j:Int) else bt y ((j - x.size:Nat):Int):=by
  rw [bt_nat (x++y) j (by rw [ByteArray.size_append];exact hj)]
  split
  · rename_i c
    rw [bt_nat x j c,ByteArray.getElem_append_left c]
  · rename_i c
    rw [bt_nat y (j - x.size) (by omega),ByteArray.getElem_append_right (by omega)]
theorem bt_ext_at (t:ByteArray) (a b j:Nat) (hb:b≤t.size) (hj:a+j < b):bt (t.extract a b) (j:Int)=bt t ((a+j:Nat):Int):=by
  have h1:(t.extract a b).size=b - a:=by rw [ByteArray.size_extract];omega
  rw [bt_nat _ j (by omega),bt_nat t (a+j) (by omega)]
  have e:(t.extract a b)[j]'(by omega)=t[a+j]'(by omega):=by
    show (t.extract a b).data[j]'_=t.data[a+j]'_
    simp only [ByteArray.data_extract,Array.getElem_extract]
  rw [e]
theorem bt_nums (l:List Int) (hl:∀ x ∈ l,0≤x∧x≤255) (j:Nat) (hj:j < l.length):bt (strOfNums l) (j:Int)=l[j]:=by
  rw [bt_nat _ j (by rw [strOfNums_size];exact hj)]
  have hm:=hl _ (List.getElem_mem hj)
  have e:(strOfNums l)[j]'(by rw [strOfNums_size];exact hj)=UInt8.ofNat (l[j]).toNat:=by
    unfold strOfNums
    show ((l.map fun x=>UInt8.ofNat x.toNat).toArray)[j]'(by simpa using hj)=_
    simp
  rw [e,UInt8.toNat_ofNat']
  omega
theorem has_app (t:ByteArray) (a:Nat) (x y:ByteArray):Has t a (x++y) ↔ Has t a x∧Has t (a+x.size) y:=by
  constructor
  · rintro⟨h1,h2⟩
    rw [ByteArray.size_append] at h1 h2
    refine⟨⟨by omega,fun j hj=>?_⟩,⟨by omega,fun j hj=>?_⟩⟩
    · rw [h2 j (by omega),bt_app x y j (by omega),if_pos hj]
    · rw [Nat.add_assoc,h2 (x.size+j) (by omega),bt_app x y (x.size+j) (by omega),if_neg (by omega),Nat.add_sub_cancel_left]
  · rintro⟨⟨h1,h2⟩,h3,h4⟩
    refine⟨by rw [ByteArray.size_append];omega,fun j hj=>?_⟩
    rw [ByteArray.size_append] at hj
    rw [bt_app x y j hj]
    split
    · rename_i c
      exact h2 j c
    · rename_i c
      have:=h4 (j - x.size) (by omega)
      rw [show a+x.size+(j - x.size)=a+j by omega] at this
      exact this
theorem has_var (t:ByteArray) (a q:Nat):Has t a (strOfNums (varL q)) ↔ a+(varL q).length≤t.size∧bytesAt t a (varL q).length=varL q:=by
  unfold Has
  rw [strOfNums_size]
  refine and_congr_right fun h1=>?_
  constructor
  · intro h
    refine List.ext_getElem (by simp [bytesAt]) fun j hj1 hj2=>?_
    rw [← bt_nums _ (varL_range q) j hj2,← h j hj2]
    simp [bytesAt]
  · intro h j hj
    rw [bt_nums _ (varL_range q) j hj]
    have e:(bytesAt t a (varL q).length)[j]'(by rw [h];exact hj)=(varL q)[j]:=by simp only [h]
    rw [← e]
    simp [bytesAt]
theorem has_ext (t:ByteArray) (a b:Nat) (hab:a≤b) (hb:b≤t.size):Has t a (t.extract a b):=by
  have h1:(t.extract a b).size=b - a:=by rw [ByteArray.size_extract];omega
  exact⟨by omega,fun j hj=>(bt_ext_at t a b j hb (by omega)).symm⟩
theorem has_eq {t x:ByteArray} {a:Nat} (h:Has t a x):t.extract a (a+x.size)=x:=by
  have h1:(t.extract a (a+x.size)).size=x.size:=by rw [ByteArray.size_extract];have:=h.1;omega
  exact bt_ext h1 fun j hj=>(bt_ext_at t a _ j h.1 (by omega)).trans (h.2 j (by omega))
/-- A short text's bytes: its length, and it. -/
def encB (s:ByteArray):ByteArray:=strOfNums (varL s.size)++s
theorem readShort_back (t s:ByteArray) (a:Nat) (hs:s.size≤20000) (h:Has t a (encB s)):readShortM t (a:Int)=(s,((a+(encB s).size:Nat):Int),true):=by
  obtain⟨h1,h2⟩:=(has_app _ _ _ _).1 h
  obtain⟨v1,v2⟩:=(has_var _ _ _).1 h1
  have hv:=readVar_back t a s.size (by omega) v1 v2
  have hz:(encB s).size=(varL s.size).length+s.size:=by unfold encB;rw [ByteArray.size_append,strOfNums_size]
  have h3:=h2.1
  have h4:=has_eq h2
  rw [strOfNums_size] at h3 h4
  unfold readShortM
  rw [hv]
  rw [if_pos ⟨rfl,by show (s.size:Int)≤20000;omega,by show (s.size:Int)≤(t.size:Int) - ((a+(varL s.size).length:Nat):Int);omega⟩]
  have e1:(((a+(varL s.size).length:Nat):Int)+(s.size:Int)).toNat=a+(varL s.size).length+s.size:=by omega
  show (t.extract (((a+(varL s.size).length:Nat):Int)).toNat (((a+(varL s.size).length:Nat):Int)+(s.size:Int)).toNat,((a+(varL s.size).length:Nat):Int)+(s.size:Int),true)=_
  rw [e1,Int.toNat_natCast,h4,hz]
  congr 2
  omega
theorem readShort_fwd (t:ByteArray) (a:Int) (h:(readShortM t a).2.2=true):∃ (a':Nat) (s:ByteArray),a=a'∧s.size≤20000∧Has t a' (encB s)∧readShortM t a=(s,((a'+(encB s).size:Nat):Int),true):=by
  unfold readShortM at h ⊢
  by_cases c:(readVarM t a).2.2=true∧(readVarM t a).1≤20000∧(readVarM t a).1≤(t.size:Int) - (readVarM t a).2.1
  · rw [if_pos c]
    obtain⟨a',q,rfl,hq,h2,h3,h4⟩:=readVar_fwd t a c.1
    rw [h4] at c ⊢
    obtain⟨_,c2,c3⟩:=c
    have c2:(q:Int)≤20000:=c2
    have c3:(q:Int)≤(t.size:Int) - ((a'+(varL q).length:Nat):Int):=c3
    have e1:(((a'+(varL q).length:Nat):Int)+(q:Int)).toNat=a'+(varL q).length+q:=by omega
    have hx:=has_ext t (a'+(varL q).length) (a'+(varL q).length+q) (by omega) (by omega)
    have hz:(t.extract (a'+(varL q).length) (a'+(varL q).length+q)).size=q:=by rw [ByteArray.size_extract];omega
    refine⟨a',t.extract (a'+(varL q).length) (a'+(varL q).length+q),rfl,by omega,?_,?_⟩
    · unfold encB
      rw [hz]
      exact (has_app _ _ _ _).2 ⟨(has_var _ _ _).2 ⟨h3,h2⟩,by rw [strOfNums_size];exact hx⟩
    · show (t.extract (((a'+(varL q).length:Nat):Int)).toNat (((a'+(varL q).length:Nat):Int)+(q:Int)).toNat,((a'+(varL q).length:Nat):Int)+(q:Int),true)=_
      unfold encB
      rw [e1,Int.toNat_natCast,ByteArray.size_append,strOfNums_size,hz]
      congr 2
      omega
  · rw [if_neg c] at h;cases h

/-! a log's bytes: its sectors one behind the other -/
def fb (S:List ByteArray) (i:Nat):Int:=bt (S.getD (i / 64) ByteArray.empty) ((i % 64:Nat):Int)
theorem fb_set (S:List ByteArray) (k:Nat) (p:ByteArray) (i:Nat) (hk:k < S.length):fb (S.set k p) i=if i / 64=k then bt p ((i % 64:Nat):Int) else fb S i:=by
  unfold fb
  rw [List.getD_eq_getElem?_getD,List.getElem?_set]
  by_cases c:k=i / 64
  · rw [if_pos c,if_pos hk,if_pos c.symm]
    rfl
  · rw [if_neg c,if_neg (fun h=>c h.symm),← List.getD_eq_getElem?_getD]
theorem patch_bt (was s:ByteArray) (F n j:Nat) (hw:was.size=64) (hs:s.size=n) (hn:F+n≤64) (hj:j < 64):bt (patchM was F s n) (j:Int)=if F≤j∧j < F+n then bt s ((j - F:Nat):Int) else bt was (j:Int):=by
  have h1:(was.extract 0 F).size=F:=by rw [ByteArray.size_extract];omega
  have h2:(was.extract 0 F++s).size=F+n:=by rw [ByteArray.size_append];omega
  have h3:(was.extract (F+n) was.size).size=64 - (F+n):=by rw [ByteArray.size_extract];omega
  unfold patchM
  rw [bt_app _ _ j (by omega),h2]
  by_cases c:j < F+n
  · rw [if_pos c,bt_app _ _ j (by omega),h1]
    by_cases c2:j < F
    · rw [if_pos c2,if_neg (by omega),bt_ext_at was 0 F j (by omega) (by omega),Nat.zero_add]
    · rw [if_neg c2,if_pos (by omega)]
  · rw [if_neg c,if_neg (by omega),bt_ext_at was (F+n) was.size (j - (F+n)) (by omega) (by omega),show F+n+(j - (F+n))=j by omega]
theorem putAll_at (C:List IPut) (hC:∀ p ∈ C,0≤p.f0) (i:Int) (h0:0≤i):∀ (S:List ByteArray),i.toNat < S.length→(putAll S C).getD i.toNat ByteArray.empty=lastPut C i (S.getD i.toNat ByteArray.empty):=by
  induction C with
  | nil=>intro S _;rfl
  | cons p C ih =>
    intro S h
    show (putAll (S.set p.f0.toNat p.f1) C).getD i.toNat ByteArray.empty=lastPut C i (if p.f0=i then p.f1 else S.getD i.toNat ByteArray.empty)
    rw [ih (fun q hq=>hC q (by simp [hq])) _ (by rw [List.length_set];exact h)]
    congr 1
    have hp:=hC p (by simp)
    rw [List.getD_eq_getElem?_getD,List.getElem?_set,List.getD_eq_getElem?_getD]
    by_cases c:p.f0=i
    · rw [if_pos c,if_pos (by rw [c]),if_pos (by rw [c];exact h)];rfl
    · rw [if_neg c,if_neg (fun e=>c (by omega))]
theorem putAll_snoc (S:List ByteArray) (C:List IPut) (p:IPut):putAll S (C ++ [p])=(putAll S C).set p.f0.toNat p.f1:=by
  unfold putAll
  rw [List.foldl_append]
  rfl
theorem fb_put (S:List ByteArray) (C:List IPut) (k:Nat) (s:ByteArray) (F n i:Nat) (hd:diskOkM S C=true) (hk:k < S.length) (hs:s.size=n) (hn:F+n≤64):fb (putAll S (C ++ [(⟨(k:Int),patchM (heldAt S C (k:Int)) F s n⟩:IPut)])) i=if 64 * k+F≤i∧i < 64 * k+F+n then bt s ((i - (64 * k+F):Nat):Int) else fb (putAll S C) i:=by
  obtain⟨_,_,_,_,d5⟩:=(diskOk_iff S C).1 hd
  have hh:=heldAt_64 S C (k:Int) hd (by omega) (by omega)
  have ha:=putAll_at C (fun p hp=>(d5 p hp).1) (k:Int) (by omega) S (by omega)
  rw [putAll_snoc]
  show fb ((putAll S C).set ((k:Int)).toNat (patchM (heldAt S C (k:Int)) F s n)) i=_
  rw [Int.toNat_natCast,fb_set _ _ _ _ (by rw [putAll_length];exact hk)]
  by_cases c:i / 64=k
  · rw [if_pos c,patch_bt _ _ _ _ _ hh hs hn (Nat.mod_lt _ (by decide))]
    by_cases c2:F≤i % 64∧i % 64 < F+n
    · rw [if_pos c2,if_pos (by omega),show i % 64 - F=i - (64 * k+F) by omega]
    · rw [if_neg c2,if_neg (by omega)]
      unfold fb heldAt
      rw [c,← ha,Int.toNat_natCast]
  · rw [if_neg c,if_neg (by omega)]
theorem wb_fb (S:List ByteArray) (t:ByteArray):∀ (m:Nat) (C:List IPut) (k F i:Nat) (C':List IPut),F < 64→i≤t.size→t.size≤i+m→diskOkM S C=true→wbM S t m C (k:Int) F i=some C' →
    ∀ j:Nat,fb (putAll S C') j=if 64 * k+F≤j∧j < 64 * k+F+(t.size - i) then bt t ((i+(j - (64 * k+F)):Nat):Int) else fb (putAll S C) j
  | 0,C,k,F,i,C',hF,hi,hm,hd,h,j=>by
    rw [wbM] at h
    obtain rfl:=Option.some.inj h
    rw [if_neg (by omega)]
  | m+1,C,k,F,i,C',hF,hi,hm,hd,h,j=>by
    rw [wbM] at h
    by_cases c:t.size≤i
    · rw [if_pos c] at h
      obtain rfl:=Option.some.inj h
      rw [if_neg (by omega)]
    rw [if_neg c] at h
    by_cases c2:0≤(k:Int)∧(k:Int)≤(S.length:Int) - 1∧C.length < 60
    · rw [if_pos c2] at h
      have hc:=chunk_size t F i hi
      have hn:=chunk_facts t F i hF (by omega)
      have hp:=patch_64 _ _ F (chunkN t F i) (heldAt_64 S C k hd c2.1 c2.2.1) hc hn.1
      have hd2:=(diskOk_snoc S C k (patchM (heldAt S C k) F (t.extract i (i+chunkN t F i)) (chunkN t F i))).2 ⟨hd,⟨c2.1,c2.2.1⟩,by omega,by omega⟩
      have ih:=wb_fb S t m _ (k+1) 0 (i+chunkN t F i) C' (by omega) (by omega) (by omega) hd2 h j
      have hb:=fb_put S C k (t.extract i (i+chunkN t F i)) F (chunkN t F i) j hd (by omega) hc hn.1
      rw [hb] at ih
      rw [ih]
      clear ih hb hd2 hp h
      generalize chunkN t F i=n at hc hn
      by_cases c3:64 * (k+1)+0≤j∧j < 64 * (k+1)+0+(t.size - (i+n))
      · rw [if_pos c3,if_pos (by omega),show i+n+(j - (64 * (k+1)+0))=i+(j - (64 * k+F)) by omega]
      · rw [if_neg c3]
        by_cases c4:64 * k+F≤j∧j < 64 * k+F+n
        · rw [if_pos c4,if_pos (by omega),bt_ext_at t i (i+n) (j - (64 * k+F)) (by omega) (by omega)]
        · rw [if_neg c4,if_neg (by omega)]
    · rw [if_neg c2] at h
      cases h
theorem wb_some (S:List ByteArray) (t:ByteArray):∀ (m:Nat) (C:List IPut) (k F i:Nat),F < 64→i≤t.size→C.length+(F+(t.size - i)+63) / 64≤60→k+(F+(t.size - i)+63) / 64≤S.length→∃ C',wbM S t m C (k:Int) F i=some C'
  | 0,C,k,F,i,hF,hi,h1,h2=>⟨C,rfl⟩
  | m+1,C,k,F,i,hF,hi,h1,h2=>by
    rw [wbM]
    by_cases c:t.size≤i
    · exact⟨C,by rw [if_pos c]⟩
    rw [if_neg c,if_pos (by omega)]
    have hn:=chunk_facts t F i hF (by omega)
    refine wb_some S t m _ (k+1) 0 (i+chunkN t F i) (by omega) (by omega) ?_ ?_
    · rw [List.length_append,List.length_singleton]
      generalize chunkN t F i=n at hn
      omega
    · generalize chunkN t F i=n at hn
      omega
/-! an area's bytes and texts -/
theorem bt_getD (S:List ByteArray) (k:Nat) (h:k < S.length) (h64:∀ s ∈ S,s.size=64):(S.getD k ByteArray.empty).size=64:=by
  rw [List.getD_eq_getElem?_getD,List.getElem?_eq_getElem h,Option.getD_some]
  exact h64 _ (List.getElem_mem h)
theorem secText_fb (S:List ByteArray) (f:Nat) (h64:∀ s ∈ S,s.size=64):∀ (d i:Nat) (acc:ByteArray),f+i+d≤S.length→acc.size=64 * i→(∀ j,j < acc.size→bt acc (j:Int)=fb S (64 * f+j)) →
    ∃ t,secText S [] (f:Int) d (i:Int) acc=(t,true)∧t.size=64 * (i+d)∧∀ j:Nat,j < t.size→bt t (j:Int)=fb S (64 * f+j)
  | 0,i,acc,h,hz,ha=>⟨acc,rfl,hz,ha⟩
  | d+1,i,acc,h,hz,ha=>by
    have hr:=readM_in S [] ((f:Int)+(i:Int)) (by omega) (by omega)
    have hg:=bt_getD S (f+i) (by omega) h64
    have e0:((f:Int)+(i:Int)).toNat=f+i:=by omega
    have hh:heldAt S [] ((f:Int)+(i:Int))=S.getD (f+i) ByteArray.empty:=by unfold heldAt;rw [e0];rfl
    rw [hh] at hr
    have hz2:(acc++S.getD (f+i) ByteArray.empty).size=64 * (i+1):=by rw [ByteArray.size_append,hg,hz];omega
    obtain⟨t,e,q1,q2⟩:=secText_fb S f h64 d (i+1) (acc++S.getD (f+i) ByteArray.empty) (by omega) hz2 (by
      intro j hj
      rw [bt_app _ _ j (by rw [hg,hz];omega)]
      by_cases c:j < acc.size
      · rw [if_pos c,ha j c]
      · rw [if_neg c]
        unfold fb
        rw [show (64 * f+j) / 64=f+i by omega,show (64 * f+j) % 64=j - acc.size by omega])
    refine⟨t,?_,by omega,q2⟩
    rw [secText,hr,if_pos rfl]
    rw [show ((i+1:Nat):Int)=(i:Int)+1 by omega] at e
    exact e
def encAll:List ByteArray→ByteArray
  | []=>⟨#[]⟩
  | s :: L=>encB s++encAll L
theorem encAll_snoc (s:ByteArray):∀ L:List ByteArray,encAll (L ++ [s])=encAll L++encB s
  | []=>by
    show encB s++(⟨#[]⟩:ByteArray)=(⟨#[]⟩:ByteArray)++encB s
    apply ByteArray.ext
    simp [ByteArray.data_append]
  | x :: L=>by
    show encB x++encAll (L ++ [s])=(encB x++encAll L)++encB s
    rw [encAll_snoc s L,ByteArray.append_assoc]
def GoodL (L:List ByteArray):Prop := ∀ s ∈ L,0 < s.size∧s.size≤20000
theorem recs_back (t:ByteArray):∀ (L:List ByteArray) (a:Nat) (acc:List ByteArray),GoodL L→Has t a (encAll L)→readRecs t L.length (a:Int) acc=(acc++L,((a+(encAll L).size:Nat):Int),true)
  | [],a,acc,hg,h=>by
    show (acc,(a:Int),true)=_
    rw [List.append_nil]
    rfl
  | s :: L,a,acc,hg,h=>by
    obtain⟨h1,h2⟩:=(has_app _ _ _ _).1 h
    have hs:=hg s (by simp)
    have hr:=readShort_back t s a hs.2 h1
    have ih:=recs_back t L (a+(encB s).size) (acc ++ [s]) (fun x hx=>hg x (by simp [hx])) h2
    show readRecs t (L.length+1) (a:Int) acc=_
    rw [readRecs,hr,if_pos rfl,if_neg (toList_some hs.1)]
    show readRecs t L.length ((a+(encB s).size:Nat):Int) (acc ++ [s])=_
    rw [ih,List.append_assoc]
    show _=(acc++s :: L,((a+(encB s++encAll L).size:Nat):Int),true)
    rw [ByteArray.size_append,Nat.add_assoc]
    rfl
theorem recs_fwd (t:ByteArray):∀ (d a:Nat) (acc:List ByteArray),a≤t.size→(readRecs t d (a:Int) acc).2.2=true→∃ L,L.length=d∧GoodL L∧Has t a (encAll L)
  | 0,a,acc,ha,h=>⟨[],rfl,(by intro s hs;cases hs),(show Has t a (⟨#[]⟩:ByteArray) from ⟨by show a+0≤t.size;omega,fun j hj=>absurd hj (Nat.not_lt_zero j)⟩)⟩
  | d+1,a,acc,ha,h=>by
    rw [readRecs] at h
    by_cases c:(readShortM t (a:Int)).2.2=true
    · rw [if_pos c] at h
      obtain⟨a',s,e,hs,hh,er⟩:=readShort_fwd t _ c
      obtain rfl:a=a':=by omega
      rw [er] at h
      by_cases c2:s.toList=([]:List UInt8)
      · rw [if_pos c2] at h;cases h
      · rw [if_neg c2] at h
        obtain⟨L,q1,q2,q3⟩:=recs_fwd t d (a+(encB s).size) _ hh.1 h
        refine⟨s :: L,by rw [List.length_cons,q1],fun x hx=>?_,(has_app _ _ _ _).2 ⟨hh,q3⟩⟩
        rcases List.mem_cons.1 hx with rfl|hx
        · exact⟨size_of_toList c2,hs⟩
        · exact q2 x hx
    · rw [if_neg c] at h;cases h
/-- The texts that stand in an area. -/
structure AreaIs (S:List ByteArray) (a:Nat) (L:List ByteArray):Prop where
  good:GoodL L
  len:(encAll L).size≤3008
  cnt:fb S (64 * (1+a * 48))=(L.length:Int)
  has:∀ j:Nat,j < (encAll L).size→fb S (64 * (2+a * 48)+j)=bt (encAll L) (j:Int)
theorem area_text (S:List ByteArray) (a:Nat) (ha:a≤1) (hl:S.length=97) (h64:∀ s ∈ S,s.size=64):∃ t,areaText S [] (a:Int)=(t,true)∧t.size=3008∧∀ j:Nat,j < t.size→bt t (j:Int)=fb S (64 * (2+a * 48)+j):=by
  obtain⟨t,e,q1,q2⟩:=secText_fb S (2+a * 48) h64 47 0 (⟨#[]⟩:ByteArray) (by omega) rfl (fun j hj=>absurd hj (Nat.not_lt_zero j))
  refine⟨t,?_,by omega,q2⟩
  have hf:=areaFirst_in (a:Int) (by omega)
  unfold areaText sectorTextM
  rw [if_pos (by decide),hf,show (1+(a:Int) * 48+1)=((2+a * 48:Nat):Int) by omega]
  exact e
theorem count_fb (S:List ByteArray) (a:Nat) (ha:a≤1) (hl:S.length=97) (h64:∀ s ∈ S,s.size=64):countM S [] (a:Int)=fb S (64 * (1+a * 48)):=by
  have hf:=areaFirst_in (a:Int) (by omega)
  have hr:=readM_in S [] (1+(a:Int) * 48) (by omega) (by omega)
  have hg:=bt_getD S (1+a * 48) (by omega) h64
  have e0:(1+(a:Int) * 48).toNat=1+a * 48:=by omega
  have hh:heldAt S [] (1+(a:Int) * 48)=S.getD (1+a * 48) ByteArray.empty:=by unfold heldAt;rw [e0];rfl
  rw [hh] at hr
  unfold countM firstM fb
  rw [if_pos (by omega),hf,hr,if_pos rfl,if_neg (toList_some (by rw [hg];decide)),show 64 * (1+a * 48) / 64=1+a * 48 by omega,show 64 * (1+a * 48) % 64=0 by omega]
  rfl
theorem area_back (S:List ByteArray) (a:Nat) (L:List ByteArray) (ha:a≤1) (hl:S.length=97) (h64:∀ s ∈ S,s.size=64) (h:AreaIs S a L):readAreaM S [] (a:Int)=(L,((encAll L).size:Int),true):=by
  obtain⟨t,e,q1,q2⟩:=area_text S a ha hl h64
  have hc:=count_fb S a ha hl h64
  have hlen:=h.len
  have hb:=recs_back t L 0 [] h.good ⟨by omega,fun j hj=>by rw [Nat.zero_add,q2 j (by omega),h.has j hj]⟩
  unfold readAreaM
  rw [if_pos (by omega),e,if_pos rfl,hc,h.cnt,Int.toNat_natCast]
  rw [Nat.zero_add] at hb
  exact hb
theorem area_fwd (S:List ByteArray) (a:Nat) (ha:a≤1) (hl:S.length=97) (h64:∀ s ∈ S,s.size=64) (h:(readAreaM S [] (a:Int)).2.2=true):∃ L,AreaIs S a L:=by
  obtain⟨t,e,q1,q2⟩:=area_text S a ha hl h64
  have hc:=count_fb S a ha hl h64
  have hn:=countM_range S [] (a:Int)
  unfold readAreaM at h
  rw [if_pos (by omega),e,if_pos rfl] at h
  obtain⟨L,r1,r2,r3⟩:=recs_fwd t (countM S [] (a:Int)).toNat 0 [] (by omega) h
  have hz:=r3.1
  refine⟨L,r2,by omega,?_,fun j hj=>?_⟩
  · rw [← hc,r1];omega
  · rw [← q2 j (by omega),← r3.2 j hj,Nat.zero_add]
/-- A right log: its first byte, and the texts of its two areas. -/
structure LogIs (S:List ByteArray) (L0 L1:List ByteArray):Prop where
  ok:diskOkM S []=true
  len:S.length=97
  a0:AreaIs S 0 L0
  a1:AreaIs S 1 L1
theorem LogIs.s64 {S L0 L1:List ByteArray} (h:LogIs S L0 L1):∀ s ∈ S,s.size=64:=((diskOk_iff S []).1 h.ok).2.2.2.1
theorem LogIs.logOk {S L0 L1:List ByteArray} (h:LogIs S L0 L1):logOkM S []=true:=by
  have e0:=area_back S 0 L0 (by decide) h.len h.s64 h.a0
  have e1:=area_back S 1 L1 (by decide) h.len h.s64 h.a1
  refine (logOk_iff S []).2 ⟨h.ok,h.len,rfl,?_,?_⟩
  · show (readAreaM S [] ((0:Nat):Int)).2.2=true
    rw [e0]
  · show (readAreaM S [] ((1:Nat):Int)).2.2=true
    rw [e1]
theorem logIs_of (S:List ByteArray) (C:List IPut) (h:logOkM S C=true):C=[]∧∃ L0 L1,LogIs S L0 L1:=by
  obtain⟨l1,l2,rfl,l4,l5⟩:=(logOk_iff S C).1 h
  have h64:=((diskOk_iff S []).1 l1).2.2.2.1
  obtain⟨L0,h0⟩:=area_fwd S 0 (by decide) l2 h64 l4
  obtain⟨L1,h1⟩:=area_fwd S 1 (by decide) l2 h64 l5
  exact⟨rfl,L0,L1,l1,l2,h0,h1⟩
/-- What another byte elsewhere leaves. -/
theorem area_same {S S':List ByteArray} {a:Nat} {L:List ByteArray} (h:AreaIs S a L) (hs:∀ j,64 * (1+a * 48)≤j→j < 64 * (1+a * 48)+3072→fb S' j=fb S j):AreaIs S' a L:=by
  have hl:=h.len
  exact⟨h.good,hl,by rw [hs _ (Nat.le_refl _) (by omega),h.cnt],fun j hj=>by rw [hs _ (by omega) (by omega),h.has j hj]⟩
theorem put1_fb (S:List ByteArray) (k:Nat) (s:ByteArray) (hd:diskOkM S []=true) (hk:k < S.length) (hs:s.size=1) (j:Nat):fb (put1M S (k:Int) s) j=if j=64 * k then bt s 0 else fb S j:=by
  have h:=fb_put S [] k (s.extract 0 1) 0 1 j hd hk (by rw [ByteArray.size_extract];omega) (by decide)
  rw [List.nil_append] at h
  unfold put1M
  rw [h]
  by_cases c:j=64 * k
  · rw [if_pos c,if_pos (by omega),show j - (64 * k+0)=0 by omega,bt_ext_at s 0 1 0 (by omega) (by decide)]
    rfl
  · rw [if_neg c,if_neg (by omega)]
    rfl
theorem one_bt (n:Int):bt (oneM n) 0=n % 256:=by
  unfold oneM
  exact bt_nums [n % 256] (fun x hx=>by rw [List.mem_singleton] at hx;subst hx;omega) 0 (Nat.lt_succ_self 0)
/-- A record more, where it has room. -/
theorem put_is (S:List ByteArray) (a:Nat) (L:List ByteArray) (t:ByteArray) (ha:a≤1) (hd:diskOkM S []=true) (hl:S.length=97) (h:AreaIs S a L) (ht:0 < t.size) (hr:(encAll L).size+(encB t).size≤3008) (hn:L.length < 255) :
    ∃ S',putM S (a:Int) t=(S',[],true)∧diskOkM S' []=true∧S'.length=97∧AreaIs S' a (L ++ [t])∧∀ j,(j < 64 * (1+a * 48)∨64 * (1+a * 48)+3072≤j)→fb S' j=fb S j:=by
  have h64:=((diskOk_iff S []).1 hd).2.2.2.1
  have hb:=area_back S a L ha hl h64 h
  have hc:=count_fb S a ha hl h64
  rw [h.cnt] at hc
  have hf:=areaFirst_in (a:Int) (by omega)
  have hz:(encB t).size=(varL t.size).length+t.size:=by unfold encB;rw [ByteArray.size_append,strOfNums_size]
  have hlen:=h.len
  have hk:(1+(a:Int) * 48+1+((encAll L).size:Int) / 64)=((2+a * 48+(encAll L).size / 64:Nat):Int):=by omega
  have hF:(((encAll L).size:Int) % 64).toNat=(encAll L).size % 64:=by omega
  obtain⟨C',eC⟩:=wb_some S (encB t) (encB t).size [] (2+a * 48+(encAll L).size / 64) ((encAll L).size % 64) 0 (by omega) (by omega) (by rw [List.length_nil];omega) (by omega)
  have hfb:=wb_fb S (encB t) (encB t).size [] _ _ 0 C' (by omega) (by omega) (by omega) hd eC
  have eb:begM S (a:Int) t=(S,C',true):=by
    unfold begM wbytesM
    rw [hb,hc,hf]
    rw [if_pos ⟨ht,by show ((encAll L).size:Int)+_≤_;omega,by omega⟩]
    show (if (0≤((encAll L).size:Int)∧((encAll L).size:Int)≤6400)∧(0≤1+(a:Int) * 48+1∧1+(a:Int) * 48+1≤(S.length:Int) - 1) then wbEnd S [] (wbM S (encB t) (encB t).size [] (1+(a:Int) * 48+1+((encAll L).size:Int) / 64) (((encAll L).size:Int) % 64).toNat 0) else _)=_
    rw [if_pos (by omega),hk,hF,eC]
    rfl
  obtain⟨_,b2,_⟩:=beg_ok S (a:Int) t hd
  rw [eb] at b2
  obtain⟨_,f2⟩:=flush_ok S C' b2
  have hl2:(putAll S C').length=97:=by rw [putAll_length,hl]
  have ek:areaFirstM (a:Int)=((1+a * 48:Nat):Int):=by rw [hf];omega
  have p1:=put1_fb (putAll S C') (1+a * 48) (oneM ((L.length:Int)+1)) f2 (by omega) (one_size _)
  obtain⟨_,f4⟩:=put1_ok (putAll S C') ((1+a * 48:Nat):Int) (oneM ((L.length:Int)+1)) (one_size _) f2 (by omega) (by omega)
  have fin:∀ j,fb (put1M (putAll S C') ((1+a * 48:Nat):Int) (oneM ((L.length:Int)+1))) j=if j=64 * (1+a * 48) then (L.length:Int)+1 else if 64 * (2+a * 48)+(encAll L).size≤j∧j < 64 * (2+a * 48)+(encAll L).size+(encB t).size then bt (encB t) ((j - (64 * (2+a * 48)+(encAll L).size):Nat):Int) else fb S j:=by
    intro j
    have e1:64 * (2+a * 48+(encAll L).size / 64)+(encAll L).size % 64=64 * (2+a * 48)+(encAll L).size:=by omega
    rw [p1 j,hfb j,e1,one_bt,show ((L.length:Int)+1) % 256=(L.length:Int)+1 by omega,Nat.sub_zero,Nat.zero_add]
    rfl
  have hz2:(encAll L++encB t).size=(encAll L).size+(encB t).size:=ByteArray.size_append ..
  refine⟨put1M (putAll S C') ((1+a * 48:Nat):Int) (oneM ((L.length:Int)+1)),?_,f4,?_,⟨?_,?_,?_,?_⟩,?_⟩
  · unfold putM
    rw [eb,if_pos rfl,hc,ek]
  · unfold put1M
    rw [putAll_length,hl2]
  · intro s hs
    rcases List.mem_append.1 hs with hs|hs
    · exact h.good s hs
    · rw [List.mem_singleton] at hs
      subst hs
      exact⟨ht,by omega⟩
  · rw [encAll_snoc,hz2];omega
  · rw [fin,if_pos rfl,List.length_append,List.length_singleton]
    omega
  · intro j hj
    rw [encAll_snoc,hz2] at hj
    rw [fin,if_neg (by omega),encAll_snoc,bt_app _ _ j (by omega)]
    by_cases c:j < (encAll L).size
    · rw [if_neg (by omega),if_pos c,h.has j c]
    · rw [if_pos (by omega),if_neg c,show 64 * (2+a * 48)+j - (64 * (2+a * 48)+(encAll L).size)=j - (encAll L).size by omega]
  · intro j hj
    rw [fin,if_neg (by omega),if_neg (by omega)]

/-! a right log, seen from one of its areas -/
structure LogAt (S:List ByteArray) (a:Nat) (L M:List ByteArray):Prop where
  ha:a≤1
  ok:diskOkM S []=true
  len:S.length=97
  own:AreaIs S a L
  oth:AreaIs S (1 - a) M
theorem LogAt.s64 {S L M:List ByteArray} {a:Nat} (h:LogAt S a L M):∀ s ∈ S,s.size=64:=((diskOk_iff S []).1 h.ok).2.2.2.1
theorem LogAt.big {S L M:List ByteArray} {a:Nat} (h:LogAt S a L M):∀ s ∈ S,s.size≤1048576:=fun s hs=>by rw [h.s64 s hs];omega
theorem LogAt.swap {S L M:List ByteArray} {a:Nat} (h:LogAt S a L M):LogAt S (1 - a) M L:=by
  have ha:=h.ha
  exact⟨by omega,h.ok,h.len,h.oth,by rw [show 1 - (1 - a)=a by omega];exact h.own⟩
theorem LogAt.logOk {S L M:List ByteArray} {a:Nat} (h:LogAt S a L M):logOkM S []=true:=by
  have ha:=h.ha
  rcases (show a=0∨a=1 by omega) with rfl|rfl
  · exact LogIs.logOk (L0:=L) (L1:=M) ⟨h.ok,h.len,h.own,h.oth⟩
  · exact LogIs.logOk (L0:=M) (L1:=L) ⟨h.ok,h.len,h.oth,h.own⟩
theorem LogAt.read {S L M:List ByteArray} {a:Nat} (h:LogAt S a L M):readAreaM S [] (a:Int)=(L,((encAll L).size:Int),true):=area_back S a L h.ha h.len h.s64 h.own
theorem LogAt.count {S L M:List ByteArray} {a:Nat} (h:LogAt S a L M):countM S [] (a:Int)=(L.length:Int):=by rw [count_fb S a h.ha h.len h.s64,h.own.cnt]
theorem logAt_of (S:List ByteArray) (C:List IPut) (h:logOkM S C=true) (a:Nat) (ha:a≤1):C=[]∧∃ L M,LogAt S a L M:=by
  obtain⟨e,L0,L1,hl⟩:=logIs_of S C h
  rcases (show a=0∨a=1 by omega) with rfl|rfl
  · exact⟨e,L0,L1,ha,hl.ok,hl.len,hl.a0,hl.a1⟩
  · exact⟨e,L1,L0,ha,hl.ok,hl.len,hl.a1,hl.a0⟩
theorem first_fb {S L M:List ByteArray} {a:Nat} (h:LogAt S a L M):firstM S [] 0=fb S 0:=by
  have hl:=h.len
  have hg:=bt_getD S 0 (by omega) h.s64
  have hr:=readM_in S [] 0 (by omega) (by omega)
  have hh:heldAt S [] 0=S.getD 0 ByteArray.empty:=rfl
  rw [hh] at hr
  unfold firstM fb
  rw [hr,if_pos rfl,if_neg (toList_some (by rw [hg];decide))]
  rfl
/-- A record more, where the writing began. -/
theorem LogAt.put {S L M:List ByteArray} {a:Nat} (h:LogAt S a L M) (t:ByteArray) (hr:(begM S (a:Int) t).2.2=true) :
    ∃ S',putM S (a:Int) t=(S',[],true)∧LogAt S' a (L ++ [t]) M∧fb S' 0=fb S 0:=by
  have ha:=h.ha
  have hz:(encB t).size=(varL t.size).length+t.size:=by unfold encB;rw [ByteArray.size_append,strOfNums_size]
  have hc:0 < t.size∧(readAreaM S [] (a:Int)).2.1+((varL t.size).length+t.size:Nat)≤3008∧countM S [] (a:Int) < 255:=by
    unfold begM at hr
    by_cases c:0 < t.size∧(readAreaM S [] (a:Int)).2.1+((varL t.size).length+t.size:Nat)≤3008∧countM S [] (a:Int) < 255
    · exact c
    · rw [if_neg c] at hr;cases hr
  rw [h.read,h.count] at hc
  obtain⟨c1,c2,c3⟩:=hc
  replace c2:((encAll L).size:Int)+((varL t.size).length+t.size:Nat)≤3008:=c2
  obtain⟨S',e,d1,d2,d3,d4⟩:=put_is S a L t ha h.ok h.len h.own c1 (by omega) (by omega)
  exact⟨S',e,⟨ha,d1,d2,d3,area_same h.oth (fun j j1 j2=>d4 j (by omega))⟩,d4 0 (by omega)⟩
/-- There is room: the record is written. -/
theorem LogAt.room {S L M:List ByteArray} {a:Nat} (h:LogAt S a L M) (t:ByteArray) (h1:0 < t.size) (h2:(encAll L).size+(encB t).size≤3008) (h3:L.length < 255) :
    ∃ S',putM S (a:Int) t=(S',[],true)∧LogAt S' a (L ++ [t]) M∧fb S' 0=fb S 0:=by
  have ha:=h.ha
  obtain⟨S',e,d1,d2,d3,d4⟩:=put_is S a L t ha h.ok h.len h.own h1 h2 h3
  exact⟨S',e,⟨ha,d1,d2,d3,area_same h.oth (fun j j1 j2=>d4 j (by omega))⟩,d4 0 (by omega)⟩
theorem LogAt.put1 {S L M:List ByteArray} {a:Nat} (h:LogAt S a L M) (k:Nat) (hk:k < 97) (n:Int):diskOkM (put1M S (k:Int) (oneM n)) []=true∧(put1M S (k:Int) (oneM n)).length=97∧∀ j,fb (put1M S (k:Int) (oneM n)) j=if j=64 * k then n % 256 else fb S j:=by
  have hl:=h.len
  obtain⟨_,f⟩:=put1_ok S (k:Int) (oneM n) (one_size n) h.ok (by omega) (by omega)
  refine⟨f,?_,fun j=>?_⟩
  · unfold put1M;rw [putAll_length,hl]
  · rw [put1_fb S k (oneM n) h.ok (by omega) (one_size n) j,one_bt]
def clearM (S:List ByteArray) (a:Int):List ByteArray:=put1M S (areaFirstM a) (oneM 0)
def turnM (S:List ByteArray):List ByteArray:=put1M S 0 (oneM (firstM S [] 0+1))
theorem LogAt.clear {S L M:List ByteArray} {a:Nat} (h:LogAt S a L M):LogAt (clearM S (a:Int)) a [] M∧fb (clearM S (a:Int)) 0=fb S 0:=by
  have ha:=h.ha
  have hf:areaFirstM (a:Int)=((1+a * 48:Nat):Int):=by rw [areaFirst_in (a:Int) (by omega)];omega
  obtain⟨p1,p2,p3⟩:=h.put1 (1+a * 48) (by omega) 0
  unfold clearM
  rw [hf]
  refine⟨⟨ha,p1,p2,⟨(fun s hs=>by cases hs),(by show 0≤3008;omega),?_,fun j hj=>absurd hj (Nat.not_lt_zero j)⟩,area_same h.oth (fun j j1 j2=>?_)⟩,?_⟩
  · rw [p3,if_pos rfl];rfl
  · rw [p3,if_neg (by omega)]
  · rw [p3,if_neg (by omega)]
theorem LogAt.turn {S L M:List ByteArray} {a:Nat} (h:LogAt S a L M):LogAt (turnM S) a L M∧fb (turnM S) 0=(fb S 0+1) % 256:=by
  have ha:=h.ha
  obtain⟨p1,p2,p3⟩:=h.put1 0 (by omega) (firstM S [] 0+1)
  have hf:=first_fb h
  have e:turnM S=put1M S ((0:Nat):Int) (oneM (firstM S [] 0+1)):=rfl
  rw [e]
  refine⟨⟨ha,p1,p2,area_same h.own (fun j j1 j2=>?_),area_same h.oth (fun j j1 j2=>?_)⟩,?_⟩
  · rw [p3,if_neg (by omega)]
  · rw [p3,if_neg (by omega)]
  · rw [p3,if_pos rfl,hf]

/-! the other area is filled, and switched to -/
def fillL (a:Int):List ByteArray→List ByteArray→Option (List ByteArray)
  | [],S=>some S
  | t :: L,S=>if (begM S a t).2.2=true then fillL a L (putM S a t).1 else none
def switchEnd (S:List ByteArray) (C:List IPut):Option (List ByteArray)→List ByteArray×List IPut×Bool
  | some S'=>(turnM S',[],true)
  | none=>(S,C,false)
def switchM (S:List ByteArray) (C:List IPut) (L:List ByteArray):List ByteArray×List IPut×Bool :=
  if logOkM S C=true then switchEnd S C (fillL (1 - activeM S C) L (clearM S (1 - activeM S C))) else (S,C,false)
theorem active_range (S:List ByteArray) (C:List IPut):0≤activeM S C∧activeM S C≤1:=by
  have h:=firstM_range S C 0
  unfold activeM
  exact⟨Int.tmod_nonneg _ h.1,by have:=Int.tmod_lt_of_pos (firstM S C 0) (show (0:Int) < 2 by decide);omega⟩
theorem other_nat (S:List ByteArray) (C:List IPut):∃ a:Nat,a≤1∧1 - activeM S C=(a:Int):=by
  have h:=active_range S C
  exact⟨(1 - activeM S C).toNat,by omega,by omega⟩
theorem putM_false (S:List ByteArray) (a:Int) (t:ByteArray) (h:¬ (begM S a t).2.2=true):putM S a t=(S,[],false):=by unfold putM;rw [if_neg h]
theorem fillL_log (a:Nat):∀ (L:List ByteArray) (S K M:List ByteArray),LogAt S a K M→∀ S',fillL (a:Int) L S=some S'→LogAt S' a (K++L) M∧fb S' 0=fb S 0
  | [],S,K,M,h,S',e=>by
    rw [fillL] at e
    obtain rfl:=Option.some.inj e
    rw [List.append_nil]
    exact⟨h,rfl⟩
  | t :: L,S,K,M,h,S',e=>by
    rw [fillL] at e
    by_cases c:(begM S (a:Int) t).2.2=true
    · rw [if_pos c] at e
      obtain⟨S2,e2,h2,f2⟩:=h.put t c
      rw [e2] at e
      obtain⟨r1,r2⟩:=fillL_log a L S2 (K ++ [t]) M h2 S' e
      rw [List.append_assoc] at r1
      exact⟨r1,by rw [r2,f2]⟩
    · rw [if_neg c] at e;cases e
theorem switch_lens (S:List ByteArray) (C:List IPut) (L:List ByteArray) (hS:S.length≤1048576) (hC:C.length≤1048576):(switchM S C L).1.length≤1048577∧(switchM S C L).2.1.length≤1048577:=by
  unfold switchM
  by_cases c:logOkM S C=true
  · rw [if_pos c]
    obtain⟨a,ha,ea⟩:=other_nat S C
    obtain⟨rfl,K,M,h⟩:=logAt_of S C c a ha
    rw [ea]
    cases hq:fillL (a:Int) L (clearM S (a:Int)) with
    | none=>exact⟨by show S.length≤_;omega,by show 0≤_;omega⟩
    | some S' =>
      obtain⟨h2,_⟩:=fillL_log a L _ [] M h.clear.1 S' hq
      have hl:=h2.turn.1.len
      exact⟨by show (turnM S').length≤_;omega,by show 0≤_;omega⟩
  · rw [if_neg c]
    exact⟨by show S.length≤_;omega,by show C.length≤_;omega⟩

theorem impl_turn (S:List ByteArray) (hd:diskOkM S []=true) (hS:S.length=97):Ev (fun k=>impl_turnFirst.f k S []) (S,[(⟨0,patchM (heldAt S [] 0) 0 ((oneM (firstM S [] 0+1)).extract 0 1) 1⟩:IPut)]):=by
  have hr:=firstM_range S [] 0
  have h:=impl_wb S [] 0 0 (oneM (firstM S [] 0+1)) hd (by rw [one_size];omega)
  rw [one_wb S 0 (oneM (firstM S [] 0+1)) (one_size _) (by omega) (by omega)] at h
  unfold impl_turnFirst.f
  refine ev_bind (impl_first S [] 0 (by omega) (by simp)) ?_
  try rw [w64 (x:=firstM S [] 0+1) (by omega) (by omega)]
  exact ev_bind h (Ev.now _)
theorem impl_fill0 (S0:List ByteArray) (C0:List IPut) (a:Nat) (l:List ByteArray) (hl:l.length≤1048576) (hS0:S0.length≤1099511627776) (hC0:C0.length≤1099511627776):∀ (rest pre S K M:List ByteArray),l=pre++rest→LogAt S a K M →
    Ev (fun k=>impl_fillOther.l0 k (a:Int) l (l.length:Int) (pre.length:Int) S0 C0 S []) (match fillL (a:Int) rest S with|some S'=>(S',[],true)|none=>(S0,C0,false)):=by
  intro rest
  induction rest with
  | nil =>
    intro pre S K M e h
    refine ev_step ?_
    simp only [impl_fillOther.l0]
    exact ev_neg (by rw [e];simp) (Ev.now _)
  | cons t rest ih =>
    intro pre S K M e h
    have hlen:=h.len
    have hg:rdOf ByteArray.empty l (pre.length:Int)=t:=by unfold rdOf;rw [Int.toNat_natCast,e,getD_mid]
    have hlt:(pre.length:Int) < (l.length:Int):=by rw [e];exact len_mid _ _ _
    have hp:=impl_put S [] (a:Int) t (by omega) (by simp) h.big (fun p hp=>by cases hp)
    have ha:=h.ha
    have e2:putRecM S [] (a:Int) t=putM S (a:Int) t:=by unfold putRecM;rw [if_pos ⟨h.logOk,by omega,by omega⟩]
    rw [e2] at hp
    refine ev_step ?_
    simp only [impl_fillOther.l0]
    rw [hg,next64 _ (by omega),fillL]
    refine ev_pos hlt ?_
    by_cases c:(begM S (a:Int) t).2.2=true
    · obtain⟨S2,e3,h2,_⟩:=h.put t c
      rw [if_pos c]
      rw [e3] at hp ⊢
      have hi:=ih (pre ++ [t]) S2 _ M (by simp [e]) h2
      rw [List.length_append,List.length_singleton] at hi
      exact ev_pos (by omega) (ev_pos hlt (ev_bind hp (ev_pos rfl hi)))
    · rw [if_neg c]
      rw [putM_false S _ t c] at hp
      exact ev_pos (by omega) (ev_pos hlt (ev_bind hp (ev_neg (by simp) (ev_cbind (impl_copy S0 C0 hS0 hC0) (Ev.now _)))))
theorem impl_fill (S:List ByteArray) (C:List IPut) (l:List ByteArray) (hS:S.length≤1048576) (hC:C.length≤1048576) (hs:∀ s ∈ S,s.size≤1048576) (hp:∀ p ∈ C,p.f1.size≤1048576) (hl:l.length≤1048576) :
    Ev (fun k=>impl_fillOther.f k S C l) (if logOkM S C=true then (match fillL (1 - activeM S C) l (clearM S (1 - activeM S C)) with|some S'=>(S',[],true)|none=>(S,C,false)) else (S,C,false)):=by
  have hL:=impl_logOk S C (by omega) (by omega) hs hp
  unfold impl_fillOther.f
  refine ev_bind hL ?_
  by_cases c:logOkM S C=true
  · obtain⟨a,ha,ea⟩:=other_nat S C
    have hr:=active_range S C
    obtain⟨rfl,L,M,h⟩:=logAt_of S C c a ha
    have hlen:=h.len
    have e2:=impl_putCount_ok S (a:Int) 0 h.ok h.len (by omega)
    have hf:=areaFirst_in (a:Int) (by omega)
    obtain⟨f1,f2⟩:=put1_ok S (areaFirstM (a:Int)) (oneM 0) (one_size _) h.ok (by omega) (by omega)
    have e3:=impl_flush S [(⟨areaFirstM (a:Int),patchM (heldAt S [] (areaFirstM (a:Int))) 0 ((oneM 0).extract 0 1) 1⟩:IPut)] (by omega) (by simp)
    rw [f1] at e3
    rw [if_pos c,ea]
    refine ev_pos c (ev_bind (impl_active S [] (by omega) (by simp)) ?_)
    rw [w64 (x:=1 - activeM S []) (by omega) (by omega),ea]
    exact ev_bind e2 (ev_bind e3 (impl_fill0 S [] a l hl (by omega) (by simp) l [] _ [] M rfl h.clear.1))
  · rw [if_neg c]
    exact ev_neg c (ev_cbind (impl_copy S C (by omega) (by omega)) (Ev.now _))
theorem impl_switch (S:List ByteArray) (C:List IPut) (l:List ByteArray) (hS:S.length≤1048576) (hC:C.length≤1048576) (hs:∀ s ∈ S,s.size≤1048576) (hp:∀ p ∈ C,p.f1.size≤1048576) (hl:l.length≤1048576) :
    Ev (fun k=>impl_SwitchLog.f k S C l) (switchM S C l):=by
  have h:=impl_fill S C l hS hC hs hp hl
  unfold impl_SwitchLog.f switchM
  refine ev_bind h ?_
  by_cases c:logOkM S C=true
  · rw [if_pos c,if_pos c]
    obtain⟨a,ha,ea⟩:=other_nat S C
    obtain⟨rfl,L,M,hA⟩:=logAt_of S C c a ha
    rw [ea]
    cases hq:fillL (a:Int) l (clearM S (a:Int)) with
    | none=>exact ev_neg (by simp) (Ev.now _)
    | some S' =>
      obtain⟨h2,_⟩:=fillL_log a l _ [] M hA.clear.1 S' hq
      have hl2:=h2.len
      have e2:=impl_turn S' h2.ok h2.len
      obtain⟨f1,f2⟩:=put1_ok S' 0 (oneM (firstM S' [] 0+1)) (one_size _) h2.ok (by omega) (by omega)
      have e3:=impl_flush S' [(⟨0,patchM (heldAt S' [] 0) 0 ((oneM (firstM S' [] 0+1)).extract 0 1) 1⟩:IPut)] (by omega) (by simp)
      rw [f1] at e3
      exact ev_pos rfl (ev_bind e2 (ev_bind e3 (Ev.now _)))
  · rw [if_neg c,if_neg c]
    exact ev_neg (by simp) (Ev.now _)

theorem spec_turn (S:List ByteArray) (hd:diskOkM S []=true) (hS:S.length=97):Ev (fun k=>spec_l04Turn.f k S []) (S,[(⟨0,patchM (heldAt S [] 0) 0 ((oneM (firstM S [] 0+1)).extract 0 1) 1⟩:IPut)],true):=by
  have hr:=firstM_range S [] 0
  have h:=spec_wb S [] 0 0 (oneM (firstM S [] 0+1)) hd (by rw [one_size];omega)
  rw [one_wb S 0 (oneM (firstM S [] 0+1)) (one_size _) (by omega) (by omega)] at h
  unfold spec_l04Turn.f
  refine ev_bind (spec_first S [] 0 (by omega) (by simp)) ?_
  try rw [w64 (x:=firstM S [] 0+1) (by omega) (by omega)]
  exact ev_cbind rfl (ev_bind h (Ev.now _))
theorem spec_fill0 (S0:List ByteArray) (a:Nat) (l:List ByteArray) (hl:l.length≤1048576) (hz:∀ s ∈ l,s.size≤1048576):∀ (rest pre S K M:List ByteArray),l=pre++rest→LogAt S a K M →
    ∃ S',Ev (fun k=>spec_l04Fill.l0 k l (a:Int) true (pre.length:Int) S []) (S',[],(fillL (a:Int) rest S).isSome)∧∀ S2,fillL (a:Int) rest S=some S2→S'=S2:=by
  intro rest
  induction rest with
  | nil =>
    intro pre S K M e h
    refine⟨S,ev_step ?_,fun S2 h2=>by rw [fillL] at h2;exact Option.some.inj h2⟩
    simp only [spec_l04Fill.l0]
    exact ev_neg (by rw [e];simp) (Ev.now _)
  | cons t rest ih =>
    intro pre S K M e h
    have hlen:=h.len
    have hg:rdOf ByteArray.empty l (pre.length:Int)=t:=by unfold rdOf;rw [Int.toNat_natCast,e,getD_mid]
    have hlt:(pre.length:Int) < (l.length:Int):=by rw [e];exact len_mid _ _ _
    have ha:=h.ha
    have hp:=spec_put1 S (a:Int) t h.logOk (by omega) (hz t (by rw [e];simp)) h.big
    rw [fillL]
    by_cases c:(begM S (a:Int) t).2.2=true
    · obtain⟨S2,e3,h2,_⟩:=h.put t c
      rw [if_pos c]
      rw [e3] at hp ⊢
      obtain⟨S',hi,hj⟩:=ih (pre ++ [t]) S2 _ M (by simp [e]) h2
      refine⟨S',ev_step ?_,hj⟩
      simp only [spec_l04Fill.l0]
      rw [hg,next64 _ (by omega)]
      rw [List.length_append,List.length_singleton] at hi
      exact ev_pos hlt (ev_pos (by first|rfl|trivial) (ev_pos (by omega) (ev_bind hp hi)))
    · rw [if_neg c]
      rw [putM_false S _ t c] at hp
      refine⟨S,ev_step ?_,fun S2 h2=>by cases h2⟩
      simp only [spec_l04Fill.l0]
      rw [hg,next64 _ (by omega)]
      refine ev_pos hlt (ev_pos (by first|rfl|trivial) (ev_pos (by omega) (ev_bind hp (ev_step ?_))))
      simp only [spec_l04Fill.l0]
      exact ev_if (fun _=>ev_neg (by simp) (Ev.now _)) (fun _=>Ev.now _)
theorem spec_switch (S:List ByteArray) (C:List IPut) (l:List ByteArray) (hS:S.length≤1048576) (hC:C.length≤1048576) (hs:∀ s ∈ S,s.size≤1048576) (hp:∀ p ∈ C,p.f1.size≤1048576) (hl:l.length≤1048576) (hz:∀ s ∈ l,s.size≤1048576) :
    Ev (fun k=>spec_SwitchLog.f k S C l) (switchM S C l):=by
  have hL:=spec_logOk S C (by omega) (by omega) hs hp
  have hcp:=spec_copy S C (by omega) (by omega)
  unfold spec_SwitchLog.f switchM
  refine ev_bind hL ?_
  by_cases c:logOkM S C=true
  · obtain⟨a,ha,ea⟩:=other_nat S C
    have hr:=active_range S C
    obtain⟨rfl,L,M,h⟩:=logAt_of S C c a ha
    have hlen:=h.len
    have e2:=spec_countPut S (a:Int) 0 h.ok h.len (by omega)
    have hf:=areaFirst_in (a:Int) (by omega)
    obtain⟨f1,f2⟩:=put1_ok S (areaFirstM (a:Int)) (oneM 0) (one_size _) h.ok (by omega) (by omega)
    have e3:=spec_flush S [(⟨areaFirstM (a:Int),patchM (heldAt S [] (areaFirstM (a:Int))) 0 ((oneM 0).extract 0 1) 1⟩:IPut)] (by omega) (by simp)
    rw [f1] at e3
    obtain⟨S',q1,q2⟩:=spec_fill0 S a l hl hz l [] (clearM S (a:Int)) [] M rfl h.clear.1
    have hfill:Ev (fun k=>spec_l04Fill.f k S [] l) (S',[],(fillL (a:Int) l (clearM S (a:Int))).isSome):=by
      unfold spec_l04Fill.f
      refine ev_bind (spec_active S [] (by omega) (by simp)) ?_
      rw [w64 (x:=1 - activeM S []) (by omega) (by omega),ea]
      exact ev_bind e2 (ev_bind e3 q1)
    rw [if_pos c,ea]
    refine ev_pos c (ev_bind hfill ?_)
    cases hq:fillL (a:Int) l (clearM S (a:Int)) with
    | none=>exact ev_neg (by simp) (ev_cbind hcp (Ev.now _))
    | some S2 =>
      obtain rfl:=q2 S2 hq
      obtain⟨h2,_⟩:=fillL_log a l _ [] M h.clear.1 S' hq
      have hl2:=h2.len
      have e4:=spec_turn S' h2.ok h2.len
      obtain⟨f3,f4⟩:=put1_ok S' 0 (oneM (firstM S' [] 0+1)) (one_size _) h2.ok (by omega) (by omega)
      have e5:=spec_flush S' [(⟨0,patchM (heldAt S' [] 0) 0 ((oneM (firstM S' [] 0+1)).extract 0 1) 1⟩:IPut)] (by omega) (by simp)
      rw [f3] at e5
      exact ev_pos rfl (ev_bind e4 (ev_pos rfl (ev_bind e5 (Ev.now _))))
  · rw [if_neg c]
    exact ev_neg c (ev_cbind hcp (Ev.now _))

/-! the drawing's cursor -/
theorem and255 (n:Int):0≤Go.bits .and .i64 n 255∧Go.bits .and .i64 n 255≤255:=by
  have h255:(BitVec.ofInt 64 255).toNat=2 ^ 8 - 1:=by decide
  have key:(BitVec.ofInt 64 n &&& BitVec.ofInt 64 255).toNat=(n % ((2 ^ 64:Nat):Int)).toNat % 2 ^ 8:=by
    rw [BitVec.toNat_and,BitVec.toNat_ofInt,h255,Nat.and_two_pow_sub_one_eq_mod]
  have e:Go.bits .and .i64 n 255=n % 256:=by
    show IntKind.i64.wrap ((BitVec.ofInt 64 n &&& BitVec.ofInt 64 255).toNat:Nat)=n % 256
    rw [key,IntKind.wrap_i64]
    omega
  rw [e]
  omega
def CurOk (b:List Int) (i:Int):Prop:=0≤i∧i≤(b.length:Int)
theorem draw_byte (b:List Int) (i h:Int) (hb:b.length≤1048576) (hi:CurOk b i):∃ r i' h',spec_l01Byte.f b i h=some (r,i',h')∧(0≤r∧r≤255)∧CurOk b i':=by
  unfold spec_l01Byte.f
  by_cases c:i < (b.length:Int)
  · rw [if_pos c,if_pos hi.1]
    refine⟨_,_,_,rfl,and255 _,?_⟩
    unfold CurOk at hi ⊢
    rw [w64 (by omega) (by omega)]
    omega
  · rw [if_neg c]
    exact⟨_,_,_,rfl,and255 _,hi⟩
theorem draw_below (b:List Int) (i h n:Int) (hb:b.length≤1048576) (hi:CurOk b i):∃ r i' h',spec_l01Below.f b i h n=some (r,i',h')∧0≤r∧(0 < n→r < n)∧(n≤0→r=0)∧CurOk b i':=by
  unfold spec_l01Below.f
  by_cases c:n≤0
  · rw [if_pos c]
    exact⟨_,_,_,rfl,Int.le_refl _,fun h=>by omega,fun _=>rfl,hi⟩
  rw [if_neg c]
  obtain⟨r1,i1,h1,e1,q1,g1⟩:=draw_byte b i h hb hi
  by_cases c2:n≤256
  · rw [if_pos c2,e1,Option.bind_some,if_neg (by omega)]
    exact⟨_,_,_,rfl,Int.tmod_nonneg _ q1.1,fun _=>Int.tmod_lt_of_pos _ (by omega),fun h=>by omega,g1⟩
  · rw [if_neg c2]
    obtain⟨r2,i2,h2,e2,q2,g2⟩:=draw_byte b i1 h1 hb g1
    obtain⟨r3,i3,h3,e3,q3,g3⟩:=draw_byte b i2 h2 hb g2
    obtain⟨r4,i4,h4,e4,q4,g4⟩:=draw_byte b i3 h3 hb g3
    simp only [e1,e2,e3,e4,Option.bind_some]
    rw [if_neg (by omega),w64 (x:=r1 * 16777216) (by omega) (by omega),w64 (x:=r2 * 65536) (by omega) (by omega),w64 (x:=r1 * 16777216+r2 * 65536) (by omega) (by omega),w64 (x:=r3 * 256) (by omega) (by omega),w64 (x:=r1 * 16777216+r2 * 65536+r3 * 256) (by omega) (by omega),w64 (x:=r1 * 16777216+r2 * 65536+r3 * 256+r4) (by omega) (by omega)]
    exact⟨_,_,_,rfl,Int.tmod_nonneg _ (by omega),fun _=>Int.tmod_lt_of_pos _ (by omega),fun h=>by omega,g4⟩
theorem draw_new0 (b:List Int) (hb:b.length≤1048576):∀ (m j:Nat) (x:Int),j+m=b.length→∃ h,Ev (fun k=>spec_l01New.l0 k b x (j:Int)) (b,0,h)
  | 0,j,x,e=>by
    refine⟨x,ev_step ?_⟩
    simp only [spec_l01New.l0]
    exact ev_neg (by omega) (Ev.now _)
  | m+1,j,x,e=>by
    by_cases c:(j:Int) < 4000
    · obtain⟨h,hh⟩:=draw_new0 b hb m (j+1) (Go.bits .and .i64 (wrap64 ((wrap64 ((wrap64 (x * 131))+(wrap64 (rd b (j:Int)))))+7)) 1073741823) (by omega)
      refine⟨h,ev_step ?_⟩
      simp only [spec_l01New.l0]
      rw [next64 _ (by omega)]
      exact ev_pos (by omega) (ev_pos c (ev_pos (by omega) hh))
    · refine⟨x,ev_step ?_⟩
      simp only [spec_l01New.l0]
      exact ev_pos (by omega) (ev_neg c (Ev.now _))
theorem draw_new (b:List Int) (hb:b.length≤1048576):∃ h,Ev (fun k=>spec_l01New.f k b) (b,0,h):=draw_new0 b hb b.length 0 _ (by omega)
theorem cur0 (b:List Int):CurOk b 0:=⟨Int.le_refl _,by omega⟩
theorem strOfNums_size (x:List Int):(strOfNums x).size=x.length:=by
  show (List.map (fun n:Int=>UInt8.ofNat n.toNat) x).toArray.size=_
  simp

theorem draw_text0 (b:List Int) (hb:b.length≤1048576) (N:Nat) (hN:N≤5000):∀ (m j:Nat) (x:List Int) (i h:Int),j+m=N→x.length=j→CurOk b i→∃ s i' h',Ev (fun k=>spec_l01Text.l0 k (N:Int) x (j:Int) b i h) (s,i',h')∧s.size=N∧CurOk b i'
  | 0,j,x,i,h,e,hx,g=>by
    refine⟨strOfNums x,i,h,ev_step ?_,by rw [strOfNums_size];omega,g⟩
    simp only [spec_l01Text.l0]
    exact ev_neg (by omega) (Ev.now _)
  | m+1,j,x,i,h,e,hx,g=>by
    obtain⟨r,i1,h1,e1,q1,g1⟩:=draw_byte b i h hb g
    obtain⟨s,i2,h2,e2,hs,g2⟩:=draw_text0 b hb N hN m (j+1) (x ++ [r % 256]) i1 h1 (by omega) (by simp [hx]) g1
    refine⟨s,i2,h2,ev_step ?_,hs,g2⟩
    simp only [spec_l01Text.l0]
    rw [next64 _ (by omega)]
    exact ev_pos (by omega) (ev_cbind e1 (ev_pos (by omega) e2))
theorem draw_text (b:List Int) (i h n:Int) (hb:b.length≤1048576) (hi:CurOk b i):∃ s i' h',Ev (fun k=>spec_l01Text.f k b i h n) (s,i',h')∧(s.size≤5000∧(n≤5000→s.size=n.toNat))∧CurOk b i':=by
  unfold spec_l01Text.f
  by_cases c:n > 5000
  · obtain⟨s,i2,h2,e2,hs,g2⟩:=draw_text0 b hb 5000 (by omega) 5000 0 [] i h (by omega) rfl hi
    refine⟨s,i2,h2,ev_pos c (ev_step ?_),⟨by omega,fun hn=>by omega⟩,g2⟩
    simp only [spec_l01Text.j0]
    exact e2
  · by_cases c2:n≤0
    · refine⟨strOfNums [],i,h,ev_neg c (ev_step ?_),⟨by rw [strOfNums_size];simp,fun hn=>by rw [strOfNums_size];simp;omega⟩,hi⟩
      simp only [spec_l01Text.j0]
      refine ev_step ?_
      simp only [spec_l01Text.l0]
      exact ev_neg (by omega) (Ev.now _)
    · obtain⟨N,rfl⟩:∃ N:Nat,n=(N:Int):=⟨n.toNat,by omega⟩
      obtain⟨s,i2,h2,e2,hs,g2⟩:=draw_text0 b hb N (by omega) N 0 [] i h (by omega) rfl hi
      refine⟨s,i2,h2,ev_neg c (ev_step ?_),⟨by omega,fun hn=>by omega⟩,g2⟩
      simp only [spec_l01Text.j0]
      exact e2
theorem draw_once (b:List Int) (i h n:Int) (hb:b.length≤1048576) (hi:CurOk b i):∃ r i' h',spec_l01Once.f b i h n=some (r,i',h')∧CurOk b i':=by
  unfold spec_l01Once.f
  obtain⟨r,i1,h1,e1,_,_,_,g1⟩:=draw_below b i h n hb hi
  rw [e1,Option.bind_some]
  exact⟨_,_,_,rfl,g1⟩

/-! long texts of one byte -/
theorem long0 (N:Nat) (x:Int) (hN:N≤1099511627776):∀ (m j:Nat),j+m=N→Ev (fun k=>spec_l01Long.l0 k (N:Int) x (List.replicate j x++List.replicate m 0) (j:Int)) (strOfNums (List.replicate N x))
  | 0,j,e=>by
    refine ev_step ?_
    simp only [spec_l01Long.l0]
    obtain rfl:j=N:=by omega
    exact ev_neg (by omega) (ev_now (by simp))
  | m+1,j,e=>by
    refine ev_step ?_
    simp only [spec_l01Long.l0]
    have h:=long0 N x hN m (j+1) (by omega)
    have hs:(List.replicate j x++List.replicate (m+1) (0:Int)).set (j:Int).toNat x=List.replicate (j+1) x++List.replicate m 0:=by
      rw [Int.toNat_natCast,List.set_append_right _ _ (by simp),List.length_replicate,Nat.sub_self,List.replicate_succ,List.set_cons_zero,List.replicate_succ']
      simp
    rw [hs,next64 _ (by omega)]
    exact ev_pos (by omega) (ev_pos (by omega) (ev_pos (by simp;omega) h))
theorem long_ok (N:Nat) (x:Int) (hN:N≤1099511627776):Ev (fun k=>spec_l01Long.f k (N:Int) x) (strOfNums (List.replicate N x)):=by
  unfold spec_l01Long.f
  rw [Int.toNat_natCast]
  have h:=long0 N x hN N 0 (by omega)
  exact ev_pos (by omega) (ev_pos (by omega) h)
def zero64:ByteArray:=strOfNums (List.replicate 64 0)
theorem zero64_size:zero64.size=64:=by rw [zero64,strOfNums_size];simp
theorem zero_ok:Ev (fun k=>spec_l03Zero.f k) zero64:=by
  unfold spec_l03Zero.f
  exact ev_bind (long_ok 64 0 (by omega)) (Ev.now _)
theorem spec_new0 (N:Nat) (hN:N≤100):∀ (m j:Nat),j+m=N→Ev (fun k=>spec_DiskNew.l0 k (N:Int) (j:Int) (List.replicate j zero64)) (List.replicate N zero64,([]:List IPut),true)
  | 0,j,e=>by
    refine ev_step ?_
    simp only [spec_DiskNew.l0]
    obtain rfl:j=N:=by omega
    exact ev_neg (by omega) (Ev.now _)
  | m+1,j,e=>by
    refine ev_step ?_
    simp only [spec_DiskNew.l0]
    have h:=spec_new0 N hN m (j+1) (by omega)
    rw [next64 _ (by omega)]
    rw [List.replicate_succ'] at h
    exact ev_pos (by omega) (ev_bind zero_ok (ev_pos (by simp;omega) h))
theorem spec_new (N:Nat) (h1:1≤N) (hN:N≤100):Ev (fun k=>spec_DiskNew.f k (N:Int)) (List.replicate N zero64,([]:List IPut),true):=by
  unfold spec_DiskNew.f
  exact ev_cbind (in_val _ _ _) (ev_pos (by rw [decide_eq_true_eq];omega) (spec_new0 N hN N 0 (by omega)))

theorem new_diskOk (N:Nat) (h1:1≤N) (hN:N≤100):diskOkM (List.replicate N zero64) []=true:=(diskOk_iff _ _).2 ⟨by simpa using h1,by simpa using hN,by simp,fun s hs=>by rw [(List.mem_replicate.1 hs).2];exact zero64_size,fun p hp=>by cases hp⟩

/-! a right log is drawn -/
theorem bt_out (s:ByteArray) (i:Nat) (h:s.size≤i):bt s (i:Int)=0:=by
  unfold bt
  rw [dif_neg (by rw [Int.toNat_natCast];omega)]
def Few (S:List ByteArray) (n:Nat):Prop := ∃ L M,LogAt S 0 L M∧L.length≤n∧M.length≤n
theorem Few.at_ {S:List ByteArray} {n:Nat} (h:Few S n) (a:Nat) (ha:a≤1):∃ L M,LogAt S a L M∧L.length≤n∧M.length≤n:=by
  obtain⟨L,M,h1,h2,h3⟩:=h
  rcases (show a=0∨a=1 by omega) with rfl|rfl
  · exact⟨L,M,h1,h2,h3⟩
  · exact⟨M,L,h1.swap,h3,h2⟩
theorem few_of {S L M:List ByteArray} {a n:Nat} (h:LogAt S a L M) (h2:L.length≤n) (h3:M.length≤n):Few S n:=by
  have ha:=h.ha
  rcases (show a=0∨a=1 by omega) with rfl|rfl
  · exact⟨L,M,h,h2,h3⟩
  · exact⟨M,L,h.swap,h3,h2⟩
theorem few_new:Few (List.replicate 97 zero64) 0:=by
  have hz:∀ j,fb (List.replicate 97 zero64) j=0:=by
    intro j
    unfold fb
    have h0:∀ i:Nat,bt zero64 (i:Int)=0:=by
      intro i
      by_cases c:i < 64
      · have h:=bt_nums (List.replicate 64 0) (fun x hx=>by rw [(List.mem_replicate.1 hx).2];decide) i (by simpa using c)
        unfold zero64
        rw [h,List.getElem_replicate]
      · have hs:=zero64_size
        exact bt_out zero64 i (by omega)
    have h1:∀ i:Nat,bt ByteArray.empty (i:Int)=0:=fun i=>bt_out _ i (Nat.zero_le _)
    rw [List.getD_eq_getElem?_getD,List.getElem?_replicate]
    split
    · exact h0 _
    · exact h1 _
  have ha:∀ a,AreaIs (List.replicate 97 zero64) a []:=fun a=>⟨(fun s hs=>by cases hs),(by show 0≤3008;omega),(by rw [hz];rfl),fun j hj=>absurd hj (Nat.not_lt_zero j)⟩
  exact⟨[],[],⟨by omega,new_diskOk 97 (by omega) (by omega),by simp,ha 0,ha 1⟩,Nat.le_refl _,Nat.le_refl _⟩
theorem few_put {S:List ByteArray} {n:Nat} (h:Few S n) (t:ByteArray):Few (appendM S [] t).1 (n+1)∧(appendM S [] t).2.1=[]:=by
  have hr:=active_range S []
  obtain⟨a,ea⟩:∃ a:Nat,activeM S []=(a:Int):=⟨(activeM S []).toNat,by omega⟩
  obtain⟨L,M,h1,h2,h3⟩:=h.at_ a (by omega)
  unfold appendM putRecM
  rw [ea,if_pos ⟨h1.logOk,by omega,by omega⟩]
  by_cases c:(begM S (a:Int) t).2.2=true
  · obtain⟨S',e,h4,_⟩:=h1.put t c
    rw [e]
    exact⟨few_of h4 (by rw [List.length_append,List.length_singleton];omega) (by omega),rfl⟩
  · rw [putM_false S _ t c]
    exact⟨few_of h1 (by omega) (by omega),rfl⟩
theorem few_switch {S:List ByteArray} {n:Nat} (h:Few S n) (t:ByteArray):Few (switchM S [] [t]).1 (n+1)∧(switchM S [] [t]).2.1=[]:=by
  obtain⟨a,ha,ea⟩:=other_nat S []
  obtain⟨L,M,h1,h2,h3⟩:=h.at_ a ha
  unfold switchM
  rw [if_pos h1.logOk,ea]
  cases hq:fillL (a:Int) [t] (clearM S (a:Int)) with
  | none=>exact⟨few_of h1 (by omega) (by omega),rfl⟩
  | some S' =>
    obtain⟨h4,_⟩:=fillL_log a [t] _ [] M h1.clear.1 S' hq
    exact⟨few_of h4.turn.1 (by show 1≤n+1;omega) (by omega),rfl⟩
theorem Few.mem {S:List ByteArray} {n:Nat} (h:Few S n):S.length≤1048576∧∀ s ∈ S,s.size≤1048576:=by
  obtain⟨L,M,h1,_,_⟩:=h
  have:=h1.len
  exact⟨by omega,h1.big⟩
theorem draw_log0 (b:List Int) (hb:b.length≤1048576):∀ (m j:Nat) (i h:Int) (S:List ByteArray),j+m=6→CurOk b i→Few S j →
    ∃ S' i' h',Ev (fun k=>spec_l04Log.l0 k (j:Int) b i h S []) (S',[],i',h')∧Few S' 6∧CurOk b i'
  | 0,j,i,h,S,e,g,hf=>by
    obtain⟨r,i1,h1,e1,q1,q2,_,g1⟩:=draw_below b i h 6 hb g
    have q3:=q2 (by decide)
    obtain rfl:j=6:=by omega
    refine⟨S,i1,h1,ev_step ?_,hf,g1⟩
    simp only [spec_l04Log.l0]
    exact ev_cbind e1 (ev_neg (by omega) (Ev.now _))
  | m+1,j,i,h,S,e,g,hf=>by
    obtain⟨r,i1,h1,e1,q1,q2,_,g1⟩:=draw_below b i h 6 hb g
    have q3:=q2 (by decide)
    obtain⟨z1,z2⟩:=hf.mem
    by_cases c:(j:Int) < r
    · obtain⟨r7,i2,h2,e2,g2⟩:=draw_once b i1 h1 5 hb g1
      by_cases c2:r7=true
      · obtain⟨r3,i3,h3,e3,q4,q5,_,g3⟩:=draw_below b i2 h2 9 hb g2
        have q6:=q5 (by decide)
        obtain⟨s,i4,h4,e4,⟨q7,_⟩,g4⟩:=draw_text b i3 h3 (1+r3) hb g3
        have e5:=spec_switch S [] [s] z1 (by simp) z2 (fun p hp=>by cases hp) (by simp) (fun x hx=>by rw [List.mem_singleton] at hx;subst hx;omega)
        obtain⟨f1,f2⟩:=few_switch hf s
        obtain⟨S',i',h',e6,f3,g5⟩:=draw_log0 b hb m (j+1) i4 h4 (switchM S [] [s]).1 (by omega) g4 f1
        refine⟨S',i',h',ev_step ?_,f3,g5⟩
        simp only [spec_l04Log.l0]
        rw [next64 _ (by omega)]
        refine ev_cbind e1 (ev_pos c (ev_cbind e2 (ev_pos c2 (ev_cbind e3 ?_))))
        show Ev (fun k=>(spec_l01Text.f k b i3 h3 (wrap64 (1+r3))).bind _) _
        rw [w64 (x:=1+r3) (by omega) (by omega)]
        refine ev_bind e4 (ev_bind e5 ?_)
        rw [f2]
        exact e6
      · obtain⟨r3,i3,h3,e3,q4,q5,_,g3⟩:=draw_below b i2 h2 90 hb g2
        have q6:=q5 (by decide)
        obtain⟨s,i4,h4,e4,⟨q7,_⟩,g4⟩:=draw_text b i3 h3 (1+r3) hb g3
        have e5:=spec_append S [] s z1 (by simp) z2 (fun p hp=>by cases hp) (by omega)
        obtain⟨f1,f2⟩:=few_put hf s
        obtain⟨S',i',h',e6,f3,g5⟩:=draw_log0 b hb m (j+1) i4 h4 (appendM S [] s).1 (by omega) g4 f1
        refine⟨S',i',h',ev_step ?_,f3,g5⟩
        simp only [spec_l04Log.l0]
        rw [next64 _ (by omega)]
        refine ev_cbind e1 (ev_pos c (ev_cbind e2 (ev_neg c2 (ev_cbind e3 ?_))))
        show Ev (fun k=>(spec_l01Text.f k b i3 h3 (wrap64 (1+r3))).bind _) _
        rw [w64 (x:=1+r3) (by omega) (by omega)]
        refine ev_bind e4 (ev_bind e5 ?_)
        rw [f2]
        exact e6
    · refine⟨S,i1,h1,ev_step ?_,?_,g1⟩
      · simp only [spec_l04Log.l0]
        exact ev_cbind e1 (ev_neg c (Ev.now _))
      · obtain⟨L,M,k1,k2,k3⟩:=hf
        exact⟨L,M,k1,by omega,by omega⟩
theorem draw_l04 (b:List Int) (i h:Int) (hb:b.length≤1048576) (g:CurOk b i):∃ S i' h',Ev (fun k=>spec_l04Log.f k b i h) (S,[],i',h')∧Few S 6∧CurOk b i':=by
  obtain⟨S',i',h',e,hf,g1⟩:=draw_log0 b hb 6 0 i h (List.replicate 97 zero64) rfl g few_new
  refine⟨S',i',h',?_,hf,g1⟩
  have hN:Ev (fun k=>spec_LogNew.f k) (List.replicate 97 zero64,([]:List IPut)):=by
    unfold spec_LogNew.f
    exact ev_cbind rfl (ev_bind (spec_new 97 (by omega) (by omega)) (Ev.now _))
  unfold spec_l04Log.f
  exact ev_bind hN e

theorem draw_dl (b:List Int) (hb:b.length≤1048576):∃ S s,Ev (fun k=>spec_DrawLog.f k b) (S,[],s)∧Few S 6∧1≤s.size∧s.size≤90:=by
  obtain⟨h0,e0⟩:=draw_new b hb
  obtain⟨S,i1,h1,e1,hf,g1⟩:=draw_l04 b 0 h0 hb (cur0 b)
  obtain⟨r3,i3,h3,e3,q4,q5,_,g3⟩:=draw_below b i1 h1 90 hb g1
  have q6:=q5 (by decide)
  obtain⟨s,i4,h4,e4,⟨q7,q8⟩,g4⟩:=draw_text b i3 h3 (1+r3) hb g3
  have q9:=q8 (by omega)
  refine⟨S,s,?_,hf,by omega,by omega⟩
  unfold spec_DrawLog.f
  refine ev_bind e0 (ev_bind e1 (ev_cbind e3 ?_))
  show Ev (fun k=>(spec_l01Text.f k b i3 h3 (wrap64 (1+r3))).bind _) _
  rw [w64 (x:=1+r3) (by omega) (by omega)]
  exact ev_bind e4 (Ev.now _)
theorem active_fb {S L M:List ByteArray} {a:Nat} (h:LogAt S a L M):activeM S []=Int.tmod (fb S 0) 2:=by
  unfold activeM
  rw [first_fb h]

theorem draw_pickint (b:List Int) (i h:Int) (l:List Int) (hb:b.length≤1048576) (g:CurOk b i) (h0:0 < l.length):∃ v i' h',spec_l01PickInt.f b i h l=some (v,i',h')∧v ∈ l∧CurOk b i':=by
  unfold spec_l01PickInt.f
  obtain⟨r,i1,h1,e1,q1,q2,_,g1⟩:=draw_below b i h (l.length:Int) hb g
  have q3:=q2 (by omega)
  rw [e1,Option.bind_some,if_pos q1,if_pos q3]
  refine⟨_,_,_,rfl,?_,g1⟩
  unfold rd
  have h2:r.toNat < l.length:=by omega
  rw [List.getD_eq_getElem?_getD,List.getElem?_eq_getElem h2,Option.getD_some]
  exact List.getElem_mem h2

/-! a log is drawn, right or not -/
structure Tame (S:List ByteArray) (C:List IPut):Prop where
  s:S.length≤100
  c:C.length≤100
  sz:∀ x ∈ S,x.size≤1048576
  cz:∀ p ∈ C,p.f1.size≤1048576
theorem tame_ok {S:List ByteArray} {C:List IPut} (h:diskOkM S C=true):Tame S C:=by
  obtain⟨d1,d2,d3,d4,d5⟩:=(diskOk_iff S C).1 h
  exact⟨by omega,by omega,fun s hs=>by rw [d4 s hs];omega,fun p hp=>by rw [(d5 p hp).2.2];omega⟩
theorem wbf_ok (S:List ByteArray) (k:Int) (t:ByteArray) (h:diskOkM S []=true) (ht:t.size≤64):∃ S' C' r S2 C2,Ev (fun n=>spec_WriteBytes.f n S [] k 0 t) (S',C',r)∧Ev (fun n=>spec_FlushDisk.f n S' C') (S2,C2)∧Tame S2 C2:=by
  have e:=spec_wb S [] k 0 t h (by omega)
  obtain⟨w1,w2,_⟩:=wbytes_ok S [] k 0 t h 1 (by omega)
  have d:=(diskOk_iff _ _).1 w2
  obtain⟨f1,f2⟩:=flush_ok S (wbytesM S [] k 0 t).2.1 w2
  have e2:=spec_flush S (wbytesM S [] k 0 t).2.1 (by omega) (by omega)
  rw [f1] at e2
  refine⟨S,(wbytesM S [] k 0 t).2.1,(wbytesM S [] k 0 t).2.2,_,_,ev_eq e ?_,e2,tame_ok f2⟩
  exact Prod.ext w1 rfl
theorem draw_logAny (b:List Int) (i h:Int) (hb:b.length≤1048576) (g:CurOk b i):∃ S C i' h',Ev (fun k=>spec_l04Any.f k b i h) (S,C,i',h')∧Tame S C∧CurOk b i':=by
  unfold spec_l04Any.f
  obtain⟨r,i1,h1,e1,_,_,_,g1⟩:=draw_below b i h 10 hb g
  obtain⟨x,i2,h2,e2,p1,p2,_,g2⟩:=draw_below b i1 h1 60 hb g1
  have p3:=p2 (by decide)
  obtain⟨S,i3,h3,e3,⟨L,M,hA,_,_⟩,g3⟩:=draw_l04 b i2 h2 hb g2
  have hlen:=hA.len
  have hT:=tame_ok hA.ok
  have e4:=spec_copy S [] (by omega) (by simp)
  by_cases c0:r=0
  · refine⟨_,_,_,_,ev_cbind e1 (ev_cbind e2 (ev_bind e3 (ev_cbind e4 (ev_pos c0 (ev_pos p1 (ev_pos (by show x≤(S.length:Int);omega) (Ev.now _))))))),⟨?_,hT.c,fun s hs=>hT.sz s (List.mem_of_mem_take hs),hT.cz⟩,g3⟩
    show (S.take _).length≤100
    rw [List.length_take];omega
  by_cases c1:r=1
  · have e5:=spec_areaFirst (Int.tmod x 2)
    obtain⟨S',C',r',S2,C2,e6,e7,hT2⟩:=wbf_ok S (areaFirstM (Int.tmod x 2)) (oneM x) hA.ok (by rw [one_size];omega)
    exact⟨_,_,_,_,ev_cbind e1 (ev_cbind e2 (ev_bind e3 (ev_cbind e4 (ev_neg c0 (ev_pos c1 (ev_cbind e5 (ev_cbind rfl (ev_bind e6 (ev_bind e7 (Ev.now _)))))))))),hT2,g3⟩
  by_cases c2:r=2
  · have e5:=long_ok 64 (x % 256) (by omega)
    have e6:=spec_write S [] x (strOfNums (List.replicate 64 (x % 256))) (by omega) (by simp)
    unfold writeM at e6
    rw [if_pos ((diskOk_snoc S [] x _).2 ⟨hA.ok,by omega,by rw [strOfNums_size,List.length_replicate];rfl,by simp⟩)] at e6
    refine⟨_,_,_,_,ev_cbind e1 (ev_cbind e2 (ev_bind e3 (ev_cbind e4 (ev_neg c0 (ev_neg c1 (ev_pos c2 (ev_bind e5 (ev_bind e6 (Ev.now _))))))))),tame_ok ?_,g3⟩
    exact (diskOk_snoc S [] x _).2 ⟨hA.ok,by omega,by rw [strOfNums_size,List.length_replicate];rfl,by simp⟩
  by_cases c3:r=3
  · obtain⟨S',C',r',S2,C2,e6,e7,hT2⟩:=wbf_ok S 2 (⟨#[255,255]⟩:ByteArray) hA.ok (by show 2≤64;omega)
    exact⟨_,_,_,_,ev_cbind e1 (ev_cbind e2 (ev_bind e3 (ev_cbind e4 (ev_neg c0 (ev_neg c1 (ev_neg c2 (ev_pos c3 (ev_bind e6 (ev_bind e7 (Ev.now _)))))))))),hT2,g3⟩
  · exact⟨S,[],i3,h3,ev_cbind e1 (ev_cbind e2 (ev_bind e3 (ev_cbind e4 (ev_neg c0 (ev_neg c1 (ev_neg c2 (ev_neg c3 (Ev.now _)))))))),hT,g3⟩
theorem draw_said (b:List Int) (i h:Int) (hb:b.length≤1048576) (g:CurOk b i):∃ s i' h',Ev (fun k=>spec_l04Said.f k b i h) (s,i',h')∧s.size≤1048576∧CurOk b i':=by
  unfold spec_l04Said.f
  obtain⟨r,i1,h1,e1,g1⟩:=draw_once b i h 10 hb g
  by_cases c:r=true
  · obtain⟨n,i2,h2,e2,hn,g2⟩:=draw_pickint b i1 h1 [0,3006,3007,2000] hb g1 (by simp)
    have hn2:0≤n∧n≤3007:=by
      simp only [List.mem_cons,List.mem_nil_iff,or_false] at hn
      omega
    have e3:=long_ok n.toNat 97 (by omega)
    rw [Int.toNat_of_nonneg hn2.1] at e3
    exact⟨_,i2,h2,ev_cbind e1 (ev_pos c (ev_cbind e2 (ev_bind e3 (Ev.now _)))),by rw [strOfNums_size,List.length_replicate];omega,g2⟩
  · obtain⟨r3,i3,h3,e3,q4,q5,_,g3⟩:=draw_below b i1 h1 90 hb g1
    have q6:=q5 (by decide)
    obtain⟨s,i4,h4,e4,⟨q7,q8⟩,g4⟩:=draw_text b i3 h3 (1+r3) hb g3
    refine⟨s,i4,h4,ev_cbind e1 (ev_neg c (ev_cbind e3 ?_)),by omega,g4⟩
    show Ev (fun k=>(spec_l01Text.f k b i3 h3 (wrap64 (1+r3))).bind _) _
    rw [w64 (x:=1+r3) (by omega) (by omega)]
    exact ev_bind e4 (Ev.now _)

theorem draw_switch0 (b:List Int) (hb:b.length≤1048576):∀ (m j:Nat) (l:List ByteArray) (i h:Int),j+m=4→CurOk b i→l.length=j→(∀ s ∈ l,s.size≤1048576) →
    ∃ S C l',Ev (fun k=>spec_DrawSwitchLog.l0 k l (j:Int) b i h) (S,C,l')∧Tame S C∧l'.length≤4∧∀ s ∈ l',s.size≤1048576
  | 0,j,l,i,h,e,g,hl,hz=>by
    obtain⟨r,i1,h1,e1,q1,q2,_,g1⟩:=draw_below b i h 4 hb g
    have q3:=q2 (by decide)
    obtain⟨S,C,i2,h2,e2,hT,_⟩:=draw_logAny b i1 h1 hb g1
    refine⟨S,C,l,ev_step ?_,hT,by omega,hz⟩
    simp only [spec_DrawSwitchLog.l0]
    exact ev_cbind e1 (ev_neg (by omega) (ev_bind e2 (Ev.now _)))
  | m+1,j,l,i,h,e,g,hl,hz=>by
    obtain⟨r,i1,h1,e1,q1,q2,_,g1⟩:=draw_below b i h 4 hb g
    by_cases c:(j:Int) < r
    · obtain⟨s,i2,h2,e2,hs,g2⟩:=draw_said b i1 h1 hb g1
      obtain⟨S,C,l',e3,hT,hl',hz'⟩:=draw_switch0 b hb m (j+1) (l ++ [s]) i2 h2 (by omega) g2 (by rw [List.length_append,hl];rfl) (fun x hx=>by
        rcases List.mem_append.1 hx with h3|h3
        · exact hz x h3
        · rw [List.mem_singleton] at h3;subst h3;exact hs)
      refine⟨S,C,l',ev_step ?_,hT,hl',hz'⟩
      simp only [spec_DrawSwitchLog.l0]
      rw [next64 _ (by omega)]
      exact ev_cbind e1 (ev_pos c (ev_bind e2 (ev_pos (by omega) e3)))
    · obtain⟨S,C,i2,h2,e2,hT,_⟩:=draw_logAny b i1 h1 hb g1
      refine⟨S,C,l,ev_step ?_,hT,by omega,hz⟩
      simp only [spec_DrawSwitchLog.l0]
      exact ev_cbind e1 (ev_neg c (ev_bind e2 (Ev.now _)))
theorem draw_switch (b:List Int) (hb:b.length≤1048576):∃ S C l,Ev (fun k=>spec_DrawSwitchLog.f k b) (S,C,l)∧Tame S C∧l.length≤4∧∀ s ∈ l,s.size≤1048576:=by
  obtain⟨h0,e0⟩:=draw_new b hb
  obtain⟨S,C,l,e1,hT,hl,hz⟩:=draw_switch0 b hb 4 0 [] 0 h0 rfl (cur0 b) rfl (fun s hs=>by cases hs)
  refine⟨S,C,l,?_,hT,hl,hz⟩
  unfold spec_DrawSwitchLog.f
  exact ev_bind e0 e1

/-! what is as itself -/
theorem sameTexts0 (l:List ByteArray) (hl:l.length≤1099511627776):∀ (m j:Nat),j+m=l.length→Ev (fun k=>laws_sameTexts.l0 k l l (j:Int)) true
  | 0,j,e=>by
    refine ev_step ?_
    simp only [laws_sameTexts.l0]
    exact ev_neg (by omega) (Ev.now _)
  | m+1,j,e=>by
    refine ev_step ?_
    simp only [laws_sameTexts.l0]
    rw [next64 _ (by omega)]
    exact ev_pos (by omega) (ev_pos (by omega) (ev_pos (by omega) (ev_pos (by first|rfl|trivial) (sameTexts0 l hl m (j+1) (by omega)))))
theorem sameTexts_ok (l:List ByteArray) (hl:l.length≤1099511627776):Ev (fun k=>laws_sameTexts.f k l l) true:=by
  unfold laws_sameTexts.f
  exact ev_pos (by first|rfl|trivial) (sameTexts0 l hl l.length 0 (by omega))

theorem sameDisk0 (S:List ByteArray) (C:List IPut) (hC:C.length≤1099511627776):∀ (m j:Nat),j+m=C.length→Ev (fun k=>laws_sameDisk.l0 k (j:Int) S C S C) true
  | 0,j,e=>by
    refine ev_step ?_
    simp only [laws_sameDisk.l0]
    exact ev_neg (by omega) (Ev.now _)
  | m+1,j,e=>by
    refine ev_step ?_
    simp only [laws_sameDisk.l0]
    rw [next64 _ (by omega)]
    exact ev_pos (by omega) (ev_pos (by omega) (ev_pos (by omega) (ev_neg (by simp) (sameDisk0 S C hC m (j+1) (by omega)))))
theorem sameDisk_ok (S:List ByteArray) (C:List IPut) (hS:S.length≤1099511627776) (hC:C.length≤1099511627776):Ev (fun k=>laws_sameDisk.f k S C S C) true:=by
  unfold laws_sameDisk.f
  refine ev_bind (sameTexts_ok S hS) (ev_pos rfl (ev_step ?_))
  simp only [laws_sameDisk.j0]
  exact ev_neg (by simp) (sameDisk0 S C hC C.length 0 (by omega))

theorem fill_room {S L M:List ByteArray} {a:Nat} (h:LogAt S a L M) (t:ByteArray) (l:List ByteArray) (h1:0 < t.size) (h2:(encAll L).size+(encB t).size≤3008) (h3:L.length < 255) :
    ∃ S',fillL (a:Int) (t :: l) S=fillL (a:Int) l S'∧LogAt S' a (L ++ [t]) M∧fb S' 0=fb S 0:=by
  obtain⟨S',e,k1,k2⟩:=h.room t h1 h2 h3
  refine⟨S',?_,k1,k2⟩
  rw [fillL]
  by_cases c:(begM S (a:Int) t).2.2=true
  · rw [if_pos c,e]
  · rw [putM_false S _ t c] at e
    have:=congrArg (fun x=>x.2.2) e
    cases this
theorem enc_small (t:ByteArray) (h:t.size≤127):(encB t).size=1+t.size:=by
  unfold encB
  rw [ByteArray.size_append,strOfNums_size]
  have:(varL t.size).length=1:=by
    rw [varL]
    split
    · omega
    · rfl
  omega
theorem switches (b:List Int) (hb:b.length≤1048576):Ev (fun k=>laws_FnSwitches.f k b) true:=by
  obtain⟨S,t,e1,hf,ht0,ht1⟩:=draw_dl b hb
  obtain⟨X,Y,l,d1,hT,hl,hz⟩:=draw_switch b hb
  obtain⟨z1,z2⟩:=hf.mem
  have hr:=active_range S []
  obtain⟨o,ho,eo⟩:=other_nat S []
  obtain⟨L,M,hA,_,_⟩:=hf.at_ o ho
  have hlen:=hA.len
  have none:∀ p ∈ ([]:List IPut),p.f1.size≤1048576:=fun p hp=>by cases hp
  generalize hF:(⟨#[102,105,114,115,116]⟩:ByteArray)=F
  generalize hG:(⟨#[115,101,99,111,110,100]⟩:ByteArray)=G
  have f5:F.size=5:=by rw [← hF];rfl
  have g6:G.size=6:=by rw [← hG];rfl
  have ft:(F++t).size=5+t.size:=by rw [ByteArray.size_append,f5]
  have n0:(encAll []).size=0:=rfl
  have n1:=enc_small (F++t) (by omega)
  have n2:=enc_small G (by omega)
  have n3:=enc_small t (by omega)
  have a1:(encAll ([] ++ [F++t])).size=(encB (F++t)).size:=by rw [encAll_snoc,ByteArray.size_append,n0,Nat.zero_add]
  obtain⟨S1,u1,hB,b1⟩:=fill_room hA.clear.1 (F++t) [G] (by omega) (by omega) (by simp)
  obtain⟨S2,u2,hC,b2⟩:=fill_room hB G [] (by omega) (by omega) (by simp)
  have a2:(encAll ([] ++ [F++t] ++ [G])).size=(encB (F++t)).size+(encB G).size:=by rw [encAll_snoc,ByteArray.size_append,a1]
  obtain⟨hD,b3⟩:=hC.turn
  have hlenD:=hD.len
  have e2:fillL (o:Int) [F++t,G] (clearM S (o:Int))=some S2:=by rw [u1,u2,fillL]
  have hsw:switchM S [] [F++t,G]=(turnM S2,[],true):=by
    unfold switchM
    rw [if_pos hA.logOk,eo,e2]
    rfl
  have x1:=impl_switch S [] [F++t,G] z1 (by simp) z2 none (by simp)
  rw [hsw] at x1
  have hfr:=firstM_range S [] 0
  rw [first_fb hA] at hfr
  have e0:activeM S []=Int.tmod (fb S 0) 2:=active_fb hA
  have eD:activeM (turnM S2) []=(o:Int):=by
    rw [active_fb hD,b3,b2,b1,hA.clear.2,← eo,e0]
    rw [Int.tmod_eq_emod_of_nonneg (by omega),Int.tmod_eq_emod_of_nonneg hfr.1]
    omega
  have x2:=impl_append (turnM S2) [] t (by omega) (by simp) hD.big none
  have hrm:=hD.room t (by omega) (by omega) (by simp)
  obtain⟨S3,e3,hE,b4⟩:=hrm
  have hlenE:=hE.len
  have eq2:appendM (turnM S2) [] t=(S3,[],true):=by unfold appendM putRecM;rw [eD,if_pos ⟨hD.logOk,by omega,by omega⟩,e3]
  rw [eq2] at x2
  have eE:activeM S3 []=(o:Int):=by rw [active_fb hE,b4,← active_fb hD,eD]
  have y1:=impl_logOk (turnM S2) [] (by omega) (by simp) hD.big none
  rw [hD.logOk] at y1
  have y2:=impl_logTexts (turnM S2) [] (by omega) (by simp) hD.big none
  have hT2:logTextsM (turnM S2) []=[F++t,G]:=by unfold logTextsM;rw [eD,hD.read];rfl
  rw [hT2] at y2
  have y3:=sameTexts_ok [F++t,G] (by simp)
  have y4:=impl_active (turnM S2) [] (by omega) (by simp)
  rw [eD] at y4
  have y5:=impl_active S [] (by omega) (by simp)
  have y6:=impl_logTexts S3 [] (by omega) (by simp) hE.big none
  have hT3:(logTextsM S3 []).length=3:=by unfold logTextsM;rw [eE,hE.read];rfl
  have v1:=spec_switch X Y l (by have:=hT.s;omega) (by have:=hT.c;omega) hT.sz hT.cz (by omega) hz
  have v2:=impl_switch X Y l (by have:=hT.s;omega) (by have:=hT.c;omega) hT.sz hT.cz (by omega)
  have hsl:=switch_lens X Y l (by have:=hT.s;omega) (by have:=hT.c;omega)
  generalize switchM X Y l=R at v1 v2 hsl
  obtain⟨R1,R2,R3⟩:=R
  have v3:=sameDisk_ok R1 R2 (by have:=hsl.1;replace this:R1.length≤_:=this;omega) (by have:=hsl.2;replace this:R2.length≤_:=this;omega)
  unfold laws_FnSwitches.f
  rw [hF,hG]
  refine ev_cbind (a:=false) (by unfold laws_big.f;rw [decide_eq_false (by omega)]) (ev_neg (by decide) (ev_bind e1 (ev_pos (by show 5+t.size≤_;omega) (ev_cbind rfl (ev_bind x1 (ev_bind x2 (ev_bind d1 (ev_bind v2 (ev_bind v1 (ev_pos rfl (ev_bind y1 (ev_pos rfl (ev_bind y2 (ev_bind y3 (ev_pos rfl (ev_bind y4 (ev_bind y5 (ev_pos ?_ (ev_pos rfl (ev_bind y6 (ev_pos (by rw [hT3];rfl) (ev_pos (beq_self_eq_true _) (ev_bind v3 (Ev.now _))))))))))))))))))))))))
  rw [w64 (by omega) (by omega)]
  exact eo.symm
theorem holds:laws_FnSwitches.Pure:=by
  intro l0 _ h _
  by_cases c:l0.length≤1048576
  · exact ev_at (switches l0 c)
  · refine⟨0,?_⟩
    unfold laws_FnSwitches.f laws_big.f
    rw [Option.bind_some,decide_eq_true (by omega)]
    rfl
end Go.Proofs.Ytjnghaajmdaggaa.QFnSwitches
namespace Go.Proofs.Ytjnghaajmdaggaa.Pure
theorem FnSwitches:QFnSwitches.laws_FnSwitches.Pure:=QFnSwitches.holds
end Go.Proofs.Ytjnghaajmdaggaa.Pure
