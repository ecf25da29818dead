/- Texts of the row's proof. Conditions: none. -/
import Derived.Test.YtneailjecbfljaaGreatDoorK37
namespace Go.Proofs.YtneailjecbfljaaGreatDoor
set_option maxRecDepth 100000
set_option maxHeartbeats 8000000
open Go.RowKit
def runF (P:Wd×List (List Out)) (e:Ev):Wd×List (List Out):=((mN P.1 e).1,P.2++[(mN P.1 e).2])
def runW (X:Wd) (L:List Ev):Wd×List (List Out):=L.foldl runF (X,[])
theorem runW_snoc (X:Wd) (L:List Ev) (e:Ev):runW X (L++[e])=runF (runW X L) e:=by unfold runW;rw [List.foldl_append];rfl
theorem runW_succ (X:Wd) {L:List Ev} {k:Nat} (h:k<L.length):runW X (L.take (k+1))=runF (runW X (L.take k)) (L.getD k Ev.zero):=by
 rw [I6 h,runW_snoc,aO h]
theorem runW_len (X:Wd) (L:List Ev) {k:Nat}:k≤L.length→(runW X (L.take k)).2.length=k:=by
 induction k with
 | zero=>intro _;rfl
 | succ k ih=>
  intro h
  rw [runW_succ X (by omega)]
  show (_++[_]).length=_
  rw [I8,ih (by omega)];rfl
theorem runW_pre (X:Wd) (L:List Ev) {i k:Nat} (hi:i<k):k≤L.length→(runW X (L.take k)).2.getD i []=(runW X (L.take (i+1))).2.getD i []:=by
 induction k with
 | zero=>omega
 | succ k ih=>
  intro h
  rcases (show i<k∨i=k by omega) with g|rfl
  ·rw [runW_succ X (by omega)]
   show (_++[_]).getD i []=_
   rw [← ih g (by omega)]
   have hl:=runW_len X L (k:=k) (by omega)
   simp only [List.getD]
   rw [Ix (by omega)]
  ·rfl
theorem run_may {c:Cf} (hc:jr c) {L:List Ev} (hL:∀ e∈L,EvGood e) (h4:L.length≤4000) {k:Nat}:k≤L.length→WdMay (runW (dx c) (L.take k)).1∧(runW (dx c) (L.take k)).1.now≤k:=by
 induction k with
 | zero=>intro _;exact ⟨beg_wd hc,by show (0:Int)≤_;simp⟩
 | succ k ih=>
  intro h
  obtain ⟨h1,h2⟩:=ih (by omega)
  rw [runW_succ _ (by omega)]
  have he:EvGood (L.getD k Ev.zero):=by rw [aO (by omega)];exact hL _ (Ib _)
  have hm:=he.may (X:=(runW (dx c) (L.take k)).1) (by omega)
  have h3:=do_now h1 hm
  refine ⟨Hc h1 hm,?_⟩
  show (mN _ _).1.now≤_
  rw [h3]
  split<;>omega
def RunP (c:Cf) (P:lA):Prop:=runW (dx c) (P.steps.map Stp.ev)=(P.last,P.steps.map Stp.out)
theorem run_do {c:Cf} {P:lA} (e:Ev) (q:RunP c P):RunP c (sH P e):=by
 unfold RunP at q ⊢
 show runW (dx c) ((P.steps++[_]).map Stp.ev)=(_,(P.steps++[_]).map Stp.out)
 rw [Im,Im,List.map_singleton,List.map_singleton,runW_snoc,q]
 rfl
theorem run_play {c:Cf} (hc:jr c) (L:List Dd) {most:Nat} (hm:most≤1000):RunP c (iH (dx c) L most):=
 play_ind hc (Q:=RunP c) L hm rfl fun _ _ e _ _ _ q=>run_do e q
end Go.Proofs.YtneailjecbfljaaGreatDoor
