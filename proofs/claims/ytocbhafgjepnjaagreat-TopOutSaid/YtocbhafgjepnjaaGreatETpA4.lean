/- Texts of the row's proof. Conditions: none. -/
import Derived.Test.YtocbhafgjepnjaaGreatK41
import Derived.Test.YtocbhafgjepnjaaGreatETpO
import Derived.Test.YtocbhafgjepnjaaGreatETpU
import Derived.Test.YtocbhafgjepnjaaGreatETpA3
namespace Go.Proofs.YtocbhafgjepnjaaGreat
set_option maxRecDepth 100000
set_option maxHeartbeats 8000000
open Go.RowKit
def OutUp (P:kY):Prop:=HUp P.last∧∀ s∈P.steps,HUp s.af
theorem up_beg (c:Cf):HUp (di c):=by
 intro i hi ho
 exfalso
 have h1:((di c).health.getD i Ht.zero).out=false:=by
  show ((List.replicate 12 Ht.zero).getD i Ht.zero).out=false
  rw [aK (by rw [List.length_replicate];exact hi),List.getElem_replicate]
  rfl
 rw [h1] at ho
 cases ho
theorem up_play {c:Cf} (hc:j4 c) (L:List Dd) {most:Nat} (hm:most≤1000):OutUp (fW (di c) L most):=by
 refine CL hc (Q:=OutUp) L hm ⟨up_beg c,fun s hs=>absurd hs (by simp)⟩ fun P n e h _ _ q=>?_
 have h1:=do_up h.ok.wd.gw q.1 e
 refine ⟨h1,fun s hs=>?_⟩
 rcases List.mem_append.1 hs with g|g
 ·exact q.2 s g
 ·simp only [List.mem_singleton] at g
  subst g
  exact h1
def outU (X:Wd) (j:Nat):Nat:=((List.range j).filter fun b=>gp X.lives (b:Nat) == 2 && (X.health.getD b Ht.zero).out).length
theorem outU_le (X:Wd) (j:Nat):outU X j≤j:=by
 unfold outU
 have h:=List.length_filter_le (fun b:Nat=>gp X.lives (b:Nat) == 2 && (X.health.getD b Ht.zero).out) (List.range j)
 rw [List.length_range] at h
 exact h
theorem outU_y {X:Wd} {j:Nat} (h:gp X.lives (j:Nat)=2) (h2:(X.health.getD j Ht.zero).out=true):outU X (j+1)=outU X j+1:=by
 unfold outU
 rw [List.range_succ,List.filter_append,It]
 have h1:(gp X.lives (j:Nat) == 2 && (X.health.getD j Ht.zero).out)=true:=by rw [h,h2];rfl
 simp only [List.filter_cons,h1,List.filter_nil,if_true,List.length_cons,List.length_nil]
theorem outU_n {X:Wd} {j:Nat} (h:¬ (gp X.lives (j:Nat)=2∧(X.health.getD j Ht.zero).out=true)):outU X (j+1)=outU X j:=by
 unfold outU
 rw [List.range_succ,List.filter_append,It]
 have h1:(gp X.lives (j:Nat) == 2 && (X.health.getD j Ht.zero).out)=false:=by
  rw [Bool.eq_false_iff]
  intro e
  rw [Bool.and_eq_true] at e
  exact h ⟨by simpa using e.1,e.2⟩
 simp only [List.filter_cons,h1,List.filter_nil,Bool.false_eq_true,if_false,List.length_nil,Nat.add_zero]
theorem cntA {X:Wd} {j:Nat} {so:Int} {ta:Bool} (hs:so=gp X.lives (j:Nat)) (ht:ta=(X.health.getD j Ht.zero).out) :
  (so=2∧ta=true∧actU X.lives (j+1)=actU X.lives j+1∧outU X (j+1)=outU X j+1)∨(so=2∧ta=false∧actU X.lives (j+1)=actU X.lives j+1∧outU X (j+1)=outU X j)∨((so == 2)=false∧ta=true∧actU X.lives (j+1)=actU X.lives j∧outU X (j+1)=outU X j)∨((so == 2)=false∧ta=false∧actU X.lives (j+1)=actU X.lives j∧outU X (j+1)=outU X j):=by
 subst hs ht
 by_cases h:gp X.lives (j:Nat)=2
 ·cases ht:(X.health.getD j Ht.zero).out with
  | true=>exact Or.inl ⟨h,rfl,actU_y h,outU_y h ht⟩
  | false=>exact Or.inr (Or.inl ⟨h,rfl,actU_y h,outU_n (fun g=>by rw [ht] at g;exact absurd g.2 (by decide))⟩)
 ·have h':(gp X.lives (j:Nat) == 2)=false:=by simpa using h
  cases ht:(X.health.getD j Ht.zero).out with
  | true=>exact Or.inr (Or.inr (Or.inl ⟨h',rfl,actU_n h,outU_n (fun g=>h g.1)⟩))
  | false=>exact Or.inr (Or.inr (Or.inr ⟨h',rfl,actU_n h,outU_n (fun g=>h g.1)⟩))
theorem cntB {X:Wd} {j:Nat} {sbzz:Int} {tb:Bool} (hs:sbzz=gp X.lives (j:Nat)) (ht:tb=(X.health.getD j Ht.zero).out) :
  (sbzz=2∧tb=true∧outU X (j+1)=outU X j+1)∨(sbzz=2∧tb=false∧outU X (j+1)=outU X j)∨((sbzz == 2)=false∧outU X (j+1)=outU X j):=by
 subst hs ht
 by_cases h:gp X.lives (j:Nat)=2
 ·cases ht:(X.health.getD j Ht.zero).out with
  | true=>exact Or.inl ⟨h,rfl,outU_y h ht⟩
  | false=>exact Or.inr (Or.inl ⟨h,rfl,outU_n (fun g=>by rw [ht] at g;exact absurd g.2 (by decide))⟩)
 ·exact Or.inr (Or.inr ⟨by simpa using h,outU_n (fun g=>h g.1)⟩)
structure OutS (s:Stp):Prop where
 up:∀ b,b<12→(s.af.health.getD b Ht.zero).out=true→¬ (s.af.health.getD b Ht.zero).until_≤s.af.now∧¬ s.af.now+500<(s.af.health.getD b Ht.zero).until_
 an:s.ev.kind=4→outU s.af 12≤outU s.be 12∨((outU s.af 12:Nat):Int)*100≤s.be.cf.most*((actU s.af.lives 12:Nat):Int)
theorem outS_play {c:Cf} {P:kY} (h:zU c P) (hu:OutUp P):∀ s∈P.steps,OutS s:=by
 intro s hs
 obtain ⟨h1,h2,h3,h4,h5,h6,h7,h8⟩:=h.st s hs
 refine ⟨fun b hb ho=>?_,fun h4=>?_⟩
 ·have g1:=h2.gw.ho b hb ho
  have g2:=hu.2 s hs b hb ho
  omega
 ·have g:=answer_out h1.gw s.ev
  rw [h5]
  unfold ib
  rw [if_neg (by omega),if_neg (by omega),if_neg (by omega)]
  exact g
end Go.Proofs.YtocbhafgjepnjaaGreat
