/- Texts of the row's proof. Conditions: none. -/
import Derived.Test.YtennppmadmgfoaaGreatDoorK35
namespace Go.Proofs.YtennppmadmgfoaaGreatDoor
open Proofs.Tryz
set_option maxRecDepth 100000
set_option maxHeartbeats 8000000
open Go.RowKit
def runF (P:Wd×List (List Out)) (e:Ev):Wd×List (List Out):=((nM P.1 e).1,P.2++[(nM P.1 e).2])
def runW (X:Wd) (L:List Ev):Wd×List (List Out):=L.foldl runF (X,[])
theorem runW_snoc (X:Wd) (L:List Ev) (e:Ev):runW X (L++[e])=runF (runW X L) e:=by unfold runW;rw [List.foldl_append];rfl
theorem runW_succ (X:Wd) {L:List Ev} {k:Nat} (h:k<L.length):runW X (L.take (k+1))=runF (runW X (L.take k)) (L.getD k Ev.zero):=by
 rw [Li h,runW_snoc,aQ h]
theorem runW_len (X:Wd) (L:List Ev) {k:Nat}:k<=L.length->(runW X (L.take k)).2.length=k:=by
 induction k with
 | zero=>intro _;rfl
 | succ k ih=>
  intro h
  rw [runW_succ X (by omega)]
  show (_++[_]).length=_
  rw [Ll,ih (by omega)];rfl
theorem runW_pre (X:Wd) (L:List Ev) {i k:Nat} (E:i<k):k<=L.length->(runW X (L.take k)).2.getD i []=(runW X (L.take (i+1))).2.getD i []:=by
 induction k with
 | zero=>omega
 | succ k ih=>
  intro z
  rcases (show i<k\/i=k by omega) with h|rfl
  ·rw [runW_succ X (by omega)]
   show (_++[_]).getD i []=_
   rw [<- ih h (by omega)]
   have G:=runW_len X L (k:=k) (by omega)
   simp only [List.getD]
   rw [LR (by omega)]
  ·rfl
theorem run_may {c:Cf} (I:jC c) {L:List Ev} (G:∀ e∈L,EvGood e) (W:L.length<=4000) {k:Nat}:k<=L.length->WdMay (runW (dD c) (L.take k)).1/\(runW (dD c) (L.take k)).1.now<=k:=by
 induction k with
 | zero=>intro _;exact ⟨beg_wd I,by show (0:Int)<=_;simp⟩
 | succ k ih=>
  intro K
  obtain ⟨h,U⟩:=ih (by omega)
  rw [runW_succ _ (by omega)]
  have J:EvGood (L.getD k Ev.zero):=by rw [aQ (by omega)];exact G _ (Lp _)
  have z:=J.may (X:=(runW (dD c) (L.take k)).1) (by omega)
  have E:=do_now h z
  refine ⟨Ku h z,?_⟩
  show (nM _ _).1.now<=_
  rw [E]
  split<;>omega
def RunP (c:Cf) (P:mc):Prop:=runW (dD c) (P.steps.map Stp.ev)=(P.last,P.steps.map Stp.out)
theorem run_do {c:Cf} {P:mc} (e:Ev) (q:RunP c P):RunP c (tX P e):=by
 unfold RunP at q ⊢
 show runW (dD c) ((P.steps++[_]).map Stp.ev)=(_,(P.steps++[_]).map Stp.out)
 rw [LG,LG,List.map_singleton,List.map_singleton,runW_snoc,q]
 rfl
theorem run_play {c:Cf} (z:jC c) (L:List Dd) {most:Nat} (E:most<=1000):RunP c (iR (dD c) L most):=
 play_ind z (Q:=RunP c) L E rfl fun _ _ h _ _ _ G=>run_do h G
abbrev Ac:=Ev ⊕ Int
def badO (c:Int):Out:=⟨10,0,0,0,0,c,0⟩
def actF (P:Wd×List (List Out)):Ac->Wd×List (List Out)
 | .inl e=>runF P e
 | .inr c=>(P.1,P.2++[[badO c]])
def actW (X:Wd) (A:List Ac):Wd×List (List Out):=A.foldl actF (X,[])
def evsA (A:List Ac):List Ev:=A.filterMap fun a=>match a with
 | .inl e=>some e
 | .inr _=>none
def acZ:Ac:=.inr 0
theorem actW_snoc (X:Wd) (A:List Ac) (a:Ac):actW X (A++[a])=actF (actW X A) a:=by unfold actW;rw [List.foldl_append];rfl
theorem take_ac {A:List Ac} {k:Nat} (h:k<A.length):A.take (k+1)=A.take k++[A.getD k acZ]:=by rw [Li h,aQ h]
theorem evsA_app (A B:List Ac):evsA (A++B)=evsA A++evsA B:=List.filterMap_append ..
theorem actF_len (P:Wd×List (List Out)) (a:Ac):(actF P a).2.length=P.2.length+1:=by
 cases a<;>(show (_++[_]).length=_;rw [Ll];rfl)
theorem actW_len (X:Wd) (A:List Ac) {k:Nat}:k<=A.length->(actW X (A.take k)).2.length=k:=by
 induction k with
 | zero=>intro _;rfl
 | succ k ih=>intro h;rw [take_ac (by omega),actW_snoc,actF_len,ih (by omega)]
theorem actW_run (X:Wd) (A:List Ac) {k:Nat}:k<=A.length->(actW X (A.take k)).1=(runW X (evsA (A.take k))).1:=by
 induction k with
 | zero=>intro _;rfl
 | succ k ih=>
  intro z
  have h:=ih (by omega)
  rw [take_ac (by omega),actW_snoc,evsA_app]
  cases A.getD k acZ with
  | inl e=>
   show (nM (actW X (A.take k)).1 e).1=(runW X (evsA (A.take k)++[e])).1
   rw [runW_snoc,h];rfl
  | inr c=>
   show (actW X (A.take k)).1=(runW X (evsA (A.take k)++[])).1
   rw [List.append_nil];exact h
theorem evsA_take (A:List Ac) (k:Nat):evsA (A.take k)=(evsA A).take (evsA (A.take k)).length:=by
 have e:evsA A=evsA (A.take k)++evsA (A.drop k):=by rw [<- evsA_app,Lx]
 rw [e,List.take_left']
 rfl
theorem evsA_le (A:List Ac):(evsA A).length<=A.length:=List.length_filterMap_le ..
theorem act_may {c:Cf} (I:jC c) {A:List Ac} (G:∀ e∈evsA A,EvGood e) (W:A.length<=4000) {k:Nat} (J:k<=A.length):WdMay (actW (dD c) (A.take k)).1/\(actW (dD c) (A.take k)).1.now<=k:=by
 rw [actW_run _ _ J,evsA_take]
 have U:=evsA_le A
 have z:=evsA_le (A.take k)
 rw [Ls] at z
 have E:(evsA (A.take k)).length<=(evsA A).length:=by
  have:=congrArg List.length (evsA_take A k)
  rw [Ls] at this;omega
 obtain ⟨h,K⟩:=run_may I G (by omega) E
 exact ⟨h,by omega⟩
theorem act_out (X:Wd) (A:List Ac) {i k:Nat} (U:i<k):k<=A.length->(actW X (A.take k)).2.getD i []=match A.getD i acZ with
  | .inl _=>(runW X (evsA A)).2.getD (evsA (A.take i)).length []
  | .inr c=>[badO c]:=by
 induction k with
 | zero=>omega
 | succ k ih=>
  intro K
  have E:=actW_len X A (k:=k) (by omega)
  rw [take_ac (by omega),actW_snoc]
  rcases (show i<k\/i=k by omega) with I|rfl
  ·rw [<- ih I (by omega)]
   cases A.getD k acZ<;>(show (_++[_]).getD i []=_;simp only [List.getD];rw [LR (by omega)])
  ·have h:=take_ac (A:=A) (k:=i) (by omega)
   cases ha:A.getD i acZ with
   | inl e=>
    show ((actW X (A.take i)).2++[(nM (actW X (A.take i)).1 e).2]).getD i []=(runW X (evsA A)).2.getD (evsA (A.take i)).length []
    rw [ha] at h
    have J:(evsA (A.take (i+1))).length=(evsA (A.take i)).length+1:=by rw [h,evsA_app];simp [evsA]
    have W:(evsA (A.take (i+1))).length<=(evsA A).length:=by
     have:=congrArg List.length (evsA_take A (i+1))
     rw [Ls] at this;omega
    have z:=runW_pre X (evsA A) (i:=(evsA (A.take i)).length) (k:=(evsA A).length) (by omega) (KY _)
    rw [List.take_length] at z
    rw [z,<- J,<- evsA_take,h,evsA_app,show evsA [Sum.inl e]=[e] from rfl,runW_snoc,actW_run X A (by omega)]
    have G:=runW_len X (evsA A) (k:=(evsA (A.take i)).length) (by omega)
    rw [<- evsA_take] at G
    show _=((runW X (evsA (A.take i))).2++[_]).getD (evsA (A.take i)).length []
    simp only [List.getD]
    rw [LU (by omega),LU (by omega),E,G,Nat.sub_self,Nat.sub_self]
   | inr c=>
    show ((actW X (A.take i)).2++[[badO c]]).getD i []=[badO c]
    simp only [List.getD]
    rw [LU (by omega),E,Nat.sub_self];rfl
end Go.Proofs.YtennppmadmgfoaaGreatDoor
