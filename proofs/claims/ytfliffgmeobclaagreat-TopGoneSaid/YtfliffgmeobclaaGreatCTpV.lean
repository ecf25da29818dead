/- Texts of the row's proof. Conditions: none. -/
import Derived.Test.YtfliffgmeobclaaGreatK41
namespace Go.Proofs.YtfliffgmeobclaaGreat
set_option maxRecDepth 100000
set_option maxHeartbeats 8000000
open Go.RowKit
theorem spared_rq (X:Wd) (b:Int):(bZ X b).1.reqs=X.reqs:=by
 obtain ⟨L,e,_⟩:=jw X b
 rw [e]
theorem end_rq (X:Wd) (i:Nat) (k y:Int):(gQ X i k y).1.reqs=X.reqs:=by unfold gQ;rw [spared_rq];rfl
theorem fail_rq (X:Wd) (i:Nat) (why:Int):(eU X i why).1.reqs=X.reqs:=by
 unfold eU
 simp only
 split
 ·rw [end_rq];rfl
 ·split
  ·rw [end_rq];rfl
  ·split
   ·rfl
   ·rw [spared_rq];rfl
theorem due_rq (P:Wd×List Out) (s:Int):(lX P s).1.reqs=P.1.reqs:=by
 unfold lX
 split
 ·exact end_rq _ _ 6 1
 ·exact fail_rq _ _ _
theorem cut_rq (P:Wd×List Out) (s:Int):(oL P s).1.reqs=P.1.reqs:=end_rq _ _ 6 2
theorem drain_rq (P:Wd×List Out) (x:Lf):(gb P x).1.reqs=P.1.reqs:=by
 unfold gb
 split
 ·rfl
 ·exact kT (g:=fun P:Wd×List Out=>P.1.reqs) cut_rq _ _
theorem tick2_rq (X:Wd):(iU X).reqs=X.reqs:=by
 have hf:=lG X
 unfold iU
 simp only
 rw [hf];rfl
theorem tick_rq (X:Wd):(jc X).1.reqs=X.reqs:=by
 unfold jc bV
 rw [kT (g:=fun P:Wd×List Out=>P.1.reqs) drain_rq,kT (g:=fun P:Wd×List Out=>P.1.reqs) due_rq]
 exact tick2_rq X
theorem open_rq (X:Wd) (key:Nat):(gj X key).1.reqs=X.reqs:=by
 unfold gj
 split
 ·rfl
 ·split<;>rfl
theorem flow_rq (X:Wd) (e:Ev):(fj X e).1.reqs=X.reqs:=by
 unfold fj
 split
 ·rfl
 ·split
  ·exact end_rq _ _ 7 0
  ·split
   ·simp only
    split<;>rfl
   ·split
    ·rfl
    ·split
     ·rfl
     ·exact fail_rq _ _ _
def isAsk (e:Ev):Prop:=e.kind=5∨e.kind=6
theorem do_rq {X:Wd} {e:Ev} (h:¬ isAsk e):(mP X e).1.reqs=X.reqs:=by
 unfold mP
 split
 ·exact open_rq _ _
 ·rw [if_neg (show ¬ (e.kind=5∨e.kind=6) from h)]
  split
  ·exact tick_rq _
  ·exact flow_rq _ _
theorem do_ask {X:Wd} {e:Ev} (h:isAsk e):(mP X e).1.reqs=(wQ X e).R∧∃ T,(mP X e).2=⟨8,0,0,0,e.request,(wQ X e).ans,0⟩ :: T∧((wQ X e).nw=false→T=[]):=by
 have h1:e.kind≠1:=by rcases h with h|h<;>omega
 unfold mP
 rw [if_neg h1,if_pos (show e.kind=5∨e.kind=6 from h)]
 unfold uh jF
 simp only
 split
 ·exact ⟨rfl,[],rfl,fun _=>rfl⟩
 ·rename_i hc
  have hn:¬ (wQ X e).nw=false:=fun g=>hc (Or.inl g)
  split
  ·exact ⟨rfl,_,rfl,fun g=>absurd g hn⟩
  ·exact ⟨spared_rq _ _,_,rfl,fun g=>absurd g hn⟩
end Go.Proofs.YtfliffgmeobclaaGreat
