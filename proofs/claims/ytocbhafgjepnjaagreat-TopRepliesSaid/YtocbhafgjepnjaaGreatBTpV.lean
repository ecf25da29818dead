/- Texts of the row's proof. Conditions: none. -/
import Derived.Test.YtocbhafgjepnjaaGreatK41
namespace Go.Proofs.YtocbhafgjepnjaaGreat
set_option maxRecDepth 100000
set_option maxHeartbeats 8000000
open Go.RowKit
def ansOf (R:List Rq) (q:Int):Option Int:=(R.find? (jW q)).map Rq.answer
theorem ansOf_idx {R:List Rq} {q:Int}:(aN (jW q) R=-1∧ansOf R q=none)∨(0≤aN (jW q) R∧ansOf R q=some (R.getD (aN (jW q) R).toNat Rq.zero).answer):=by
 unfold ansOf
 rcases b8 (jW q) R Rq.zero with ⟨e,h⟩|⟨i,hi,e,hp,h⟩
 ·left
  refine ⟨e,?_⟩
  rw [List.find?_eq_none.2 (fun x hx=>by rw [h x hx];decide)]
  rfl
 ·right
  refine ⟨by omega,?_⟩
  have hs:R=R.take i++R.getD i Rq.zero :: R.drop (i+1):=by
   rw [aK hi,List.getElem_cons_drop,IE]
  have hf:R.find? (jW q)=some (R.getD i Rq.zero):=by
   conv=>lhs;rw [hs]
   rw [List.find?_append,List.find?_eq_none.2 (fun x hx=>by rw [h x hx];decide),List.find?_cons,hp]
   rfl
  rw [hf,e];rfl
theorem ansOf_app {R:List Rq} {q a:Int} (h:ansOf R q=some a) (T:List Rq):ansOf (R++T) q=some a:=by
 unfold ansOf at h ⊢
 rw [List.find?_append]
 cases hf:R.find? (jW q) with
 | none=>rw [hf] at h;cases h
 | some x=>rw [hf] at h;exact h
theorem spared_rq (X:Wd) (b:Int):(bP X b).1.reqs=X.reqs:=by
 obtain ⟨L,e,_⟩:=iy X b
 rw [e]
theorem end_rq (X:Wd) (i:Nat) (k y:Int):(g9 X i k y).1.reqs=X.reqs:=by unfold g9;rw [spared_rq];rfl
theorem fail_rq (X:Wd) (i:Nat) (why:Int):(eu X i why).1.reqs=X.reqs:=by
 unfold eu
 simp only
 split
 ·rw [end_rq];rfl
 ·split
  ·rw [end_rq];rfl
  ·split
   ·rfl
   ·rw [spared_rq];rfl
theorem due_rq (P:Wd×List Out) (s:Int):(ja P s).1.reqs=P.1.reqs:=by
 unfold ja
 split
 ·exact end_rq _ _ 6 1
 ·exact fail_rq _ _ _
theorem cut_rq (P:Wd×List Out) (s:Int):(lX P s).1.reqs=P.1.reqs:=end_rq _ _ 6 2
theorem drain_rq (P:Wd×List Out) (x:Lf):(eO P x).1.reqs=P.1.reqs:=by
 unfold eO
 split
 ·rfl
 ·exact kS (g:=fun P:Wd×List Out=>P.1.reqs) cut_rq _ _
theorem tick2_rq (X:Wd):(fS X).reqs=X.reqs:=by
 have hf:=iv X
 unfold fS
 simp only
 rw [hf];rfl
theorem tick_rq (X:Wd):(gX X).1.reqs=X.reqs:=by
 unfold gX ca
 rw [kS (g:=fun P:Wd×List Out=>P.1.reqs) drain_rq,kS (g:=fun P:Wd×List Out=>P.1.reqs) due_rq]
 exact tick2_rq X
theorem open_rq (X:Wd) (key:Nat):(ep X key).1.reqs=X.reqs:=by
 unfold ep
 split
 ·rfl
 ·split<;>rfl
theorem flow_rq (X:Wd) (e:Ev):(ez X e).1.reqs=X.reqs:=by
 unfold ez
 split
 ·rfl
 ·split
  ·exact end_rq _ _ 7 0
  ·split
   ·simp only
    split<;>rfl
   ·split
    ·rfl
    ·split
     ·rfl
     ·exact fail_rq _ _ _
def isAsk (e:Ev):Prop:=e.kind=5∨e.kind=6
theorem do_rq {X:Wd} {e:Ev} (h:¬ isAsk e):(ib X e).1.reqs=X.reqs:=by
 unfold ib
 split
 ·exact open_rq _ _
 ·rw [if_neg (show ¬ (e.kind=5∨e.kind=6) from h)]
  split
  ·exact tick_rq _
  ·exact flow_rq _ _
theorem do_ask {X:Wd} {e:Ev} (h:isAsk e):(ib X e).1.reqs=(nF X e).R∧∃ T,(ib X e).2=⟨8,0,0,0,e.request,(nF X e).ans,0⟩ :: T∧((nF X e).nw=false→T=[]):=by
 have h1:e.kind≠1:=by rcases h with h|h<;>omega
 unfold ib
 rw [if_neg h1,if_pos (show e.kind=5∨e.kind=6 from h)]
 unfold oL jb
 simp only
 split
 ·exact ⟨rfl,[],rfl,fun _=>rfl⟩
 ·rename_i hc
  have hn:¬ (nF X e).nw=false:=fun g=>hc (Or.inl g)
  split
  ·exact ⟨rfl,_,rfl,fun g=>absurd g hn⟩
  ·exact ⟨spared_rq _ _,_,rfl,fun g=>absurd g hn⟩
theorem askG_known {X:Wd} {e:Ev} {a:Int} (h:ansOf X.reqs e.request=some a):(nF X e).R=X.reqs∧(nF X e).ans=a∧(nF X e).nw=false:=by
 rcases ansOf_idx (R:=X.reqs) (q:=e.request) with ⟨_,g⟩|⟨h0,g⟩
 ·rw [g] at h;cases h
 ·rw [g] at h
  unfold nF yI
  have h0':¬ aN (jW (reqE e).id) X.reqs<0:=by show ¬ aN (jW e.request) X.reqs<0;omega
  rw [if_pos h0']
  exact ⟨rfl,by injection h,rfl⟩
theorem askG_new {X:Wd} {e:Ev} (h:ansOf X.reqs e.request=none) (hl:X.reqs.length<100):ansOf (nF X e).R e.request=some (nF X e).ans∧(∀ q a,ansOf X.reqs q=some a→ansOf (nF X e).R q=some a)∧(nF X e).R.length=X.reqs.length+1:=by
 rcases ansOf_idx (R:=X.reqs) (q:=e.request) with ⟨g,_⟩|⟨_,g⟩
 ·have g':¬ ¬ aN (jW (reqE e).id) X.reqs<0:=by show ¬ ¬ aN (jW e.request) X.reqs<0;omega
  have hl':¬ X.reqs.length=100:=by omega
  have key:∀ x:Rq,x.id=e.request→ansOf (X.reqs++[x]) e.request=some x.answer:=fun x hx=>by
   unfold ansOf at h ⊢
   have hn:X.reqs.find? (jW e.request)=none:=by simpa using h
   rw [List.find?_append,hn]
   simp [jW,hx]
  unfold nF yI
  rw [if_neg g',if_neg hl']
  split
  ·exact ⟨key _ rfl,fun q a hq=>ansOf_app hq _,by simp⟩
  ·exact ⟨key _ rfl,fun q a hq=>ansOf_app hq _,by simp⟩
 ·rw [g] at h;cases h
def Kept (X:Wd) (s:Stp):Prop:=isAsk s.ev→∃ a T,ansOf X.reqs s.ev.request=some a∧s.out=⟨8,0,0,0,s.ev.request,a,0⟩ :: T
def Again (y x:Stp):Prop:=isAsk x.ev→isAsk y.ev→y.ev.request=x.ev.request→∃ o T,x.out=[o]∧y.out=o :: T∧x.af.reqs.length=x.be.reqs.length
structure RepOk (P:kY):Prop where
 k:∀ s∈P.steps,Kept P.last s
 p:P.steps.Pairwise Again
 l:P.last.reqs.length≤P.steps.length
theorem rep_do {P:kY} (h:RepOk P) (hn:P.steps.length<100) (e:Ev):RepOk (sE P e):=by
 by_cases ha:isAsk e
 ·obtain ⟨hR,T,hO,hT⟩:=do_ask (X:=P.last) ha
  cases hk:ansOf P.last.reqs e.request with
  | some a=>
   obtain ⟨g1,g2,g3⟩:=askG_known hk
   have hO':(ib P.last e).2=[⟨8,0,0,0,e.request,a,0⟩]:=by rw [hO,hT g3,g2]
   have hR':(ib P.last e).1.reqs=P.last.reqs:=by rw [hR,g1]
   refine ⟨fun s hs=>?_,?_,?_⟩
   ·rcases List.mem_append.1 hs with hs|hs
    ·intro g
     obtain ⟨b,U,e1,e2⟩:=h.k s hs g
     exact ⟨b,U,by show ansOf (ib P.last e).1.reqs _=_;rw [hR'];exact e1,e2⟩
    ·rw [List.mem_singleton] at hs
     subst hs
     exact fun _=>⟨a,[],by show ansOf (ib P.last e).1.reqs _=_;rw [hR'];exact hk,hO'⟩
   ·refine List.pairwise_append.2 ⟨h.p,List.pairwise_singleton _ _,fun y hy x hx=>?_⟩
    rw [List.mem_singleton] at hx
    subst hx
    intro _ hy2 he
    obtain ⟨b,U,e1,e2⟩:=h.k y hy hy2
    rw [he] at e1 e2
    obtain rfl:a=b:=by rw [hk] at e1;injection e1
    exact ⟨_,U,hO',e2,by show (ib P.last e).1.reqs.length=_;rw [hR']⟩
   ·show (ib P.last e).1.reqs.length≤(P.steps++[_]).length
    rw [hR'];have:=h.l;simp;omega
  | none=>
   obtain ⟨g1,g2,g3⟩:=askG_new hk (by have:=h.l;omega)
   rw [← hR] at g1 g2 g3
   refine ⟨fun s hs=>?_,?_,?_⟩
   ·rcases List.mem_append.1 hs with hs|hs
    ·intro g
     obtain ⟨b,U,e1,e2⟩:=h.k s hs g
     exact ⟨b,U,g2 _ _ e1,e2⟩
    ·rw [List.mem_singleton] at hs
     subst hs
     exact fun _=>⟨_,T,g1,hO⟩
   ·refine List.pairwise_append.2 ⟨h.p,List.pairwise_singleton _ _,fun y hy x hx=>?_⟩
    rw [List.mem_singleton] at hx
    subst hx
    intro _ hy2 he
    obtain ⟨b,U,e1,e2⟩:=h.k y hy hy2
    rw [he,hk] at e1
    cases e1
   ·show (ib P.last e).1.reqs.length≤(P.steps++[_]).length
    rw [g3];have:=h.l;simp;omega
 ·have hR:=do_rq (X:=P.last) ha
  refine ⟨fun s hs=>?_,?_,?_⟩
  ·rcases List.mem_append.1 hs with hs|hs
   ·intro g
    obtain ⟨b,U,e1,e2⟩:=h.k s hs g
    exact ⟨b,U,by show ansOf (ib P.last e).1.reqs _=_;rw [hR];exact e1,e2⟩
   ·rw [List.mem_singleton] at hs
    subst hs
    exact fun g=>absurd g ha
  ·refine List.pairwise_append.2 ⟨h.p,List.pairwise_singleton _ _,fun y hy x hx=>?_⟩
   rw [List.mem_singleton] at hx
   subst hx
   exact fun g=>absurd g ha
  ·show (ib P.last e).1.reqs.length≤(P.steps++[_]).length
   rw [hR];have:=h.l;simp;omega
theorem rep_play {c:Cf} (hc:j4 c) (L:List Dd):RepOk (fW (di c) L 60):=
 CL hc L (by omega) ⟨fun _ h=>absurd h (by simp),List.Pairwise.nil,by simp [di]⟩ (fun P n e hp hn _ h=>rep_do h (by rw [hp.len];omega) e)
end Go.Proofs.YtocbhafgjepnjaaGreat
