/- Texts of the row's proof. Conditions: none. -/
import Derived.Test.YtfliffgmeobclaaGreatCTpC8
import Derived.Test.YtfliffgmeobclaaGreatCTpV
namespace Go.Proofs.YtfliffgmeobclaaGreat
set_option maxRecDepth 100000
set_option maxHeartbeats 8000000
open Go.RowKit
def grS (s:Stp):Bool:=s.ev.kind == 6 && (!s.out.isEmpty && ((s.out.getD 0 Out.zero).code == 0 && decide (s.be.reqs.length<s.af.reqs.length)))
def grL (S:List Stp):List Int:=(S.filter grS).map fun s=>s.ev.request
theorem askG_R (X:Wd) (e:Ev):((wQ X e).nw=false∧(wQ X e).R=X.reqs)∨((wQ X e).nw=true∧∃ q:Rq,q.id=e.request∧(wQ X e).R=X.reqs++[q]∧e.request∉gP X.reqs):=by
 have hid:(reqE e).id=e.request:=rfl
 unfold wQ By
 rcases bJ (jW (reqE e).id) X.reqs Rq.zero with ⟨ei,hn⟩|⟨i,hi,ei,_⟩
 ·rw [if_neg (by omega)]
  have hno:e.request∉gP X.reqs:=by
   intro hm
   obtain ⟨x,hx,hxe⟩:=Ik.1 hm
   have:=hn x hx
   unfold jW at this
   rw [hid,hxe] at this
   simp at this
  split
  ·exact Or.inl ⟨rfl,rfl⟩
  ·split
   ·refine Or.inr ⟨rfl,_,?_,rfl,hno⟩
    exact hid
   ·refine Or.inr ⟨rfl,_,?_,rfl,hno⟩
    exact hid
 ·rw [if_pos (by omega)]
  exact Or.inl ⟨rfl,rfl⟩
theorem gr_is {X:Wd} {e:Ev}:grOf X e=if grS ⟨e,X,(mP X e).1,(mP X e).2⟩=true then [e.request] else []:=by
 by_cases h6:e.kind=6
 ·have ha:isAsk e:=Or.inr h6
  obtain ⟨hR,T,hO,_⟩:=do_ask (X:=X) ha
  have hs:grS ⟨e,X,(mP X e).1,(mP X e).2⟩=((wQ X e).ans == 0 && decide (X.reqs.length<(wQ X e).R.length)):=by
   unfold grS
   simp only [h6,hO,hR]
   simp
  rw [hs]
  unfold grOf
  rcases askG_R X e with ⟨h1,h2⟩|⟨h1,q,_,h2,_⟩
  ·rw [h1,h2];simp
  ·rw [h1,h2]
   by_cases h0:(wQ X e).ans=0
   ·rw [if_pos ⟨Or.inr h6,rfl,h0,h6⟩];simp [h0]
   ·rw [if_neg (fun g=>h0 g.2.2.1)];simp [h0]
 ·unfold grOf grS
  rw [if_neg (fun g=>h6 g.2.2.2)]
  simp [h6]
theorem gr_new {X:Wd} {e:Ev} {q:Int} (h:q∈grOf X e):q=e.request∧q∉gP X.reqs∧q∈gP (mP X e).1.reqs:=by
 unfold grOf at h
 split at h
 ·rename_i hc
  simp only [List.mem_singleton] at h
  subst h
  rcases askG_R X e with ⟨h1,_⟩|⟨_,y,hy,h2,h3⟩
  ·rw [h1] at hc;simp at hc
  ·obtain ⟨hR,_⟩:=do_ask (X:=X) (e:=e) hc.1
   refine ⟨rfl,h3,?_⟩
   rw [hR,h2]
   unfold gP
   rw [Ij]
   exact List.mem_append_right _ (by simp [hy])
 ·simp at h
theorem ids_grow {X:Wd} {e:Ev} {q:Int} (h:q∈gP X.reqs):q∈gP (mP X e).1.reqs:=by
 by_cases ha:isAsk e
 ·obtain ⟨hR,_⟩:=do_ask (X:=X) ha
  rw [hR]
  rcases askG_R X e with ⟨_,h2⟩|⟨_,y,_,h2,_⟩
  ·rw [h2];exact h
  ·rw [h2];unfold gP at h ⊢;rw [Ij];exact List.mem_append_left _ h
 ·rw [do_rq ha];exact h
structure GoneP (P:lA):Prop where
 p:(grL P.steps).Perm (dq P.last.lives++gq (outsA P))
 n:(grL P.steps).Nodup
 i:∀ q∈grL P.steps,q∈gP P.last.reqs
theorem gone_do {c:Cf} {P:lA} {n:Nat} (h:PlyAt c P n) (hn:n≤100000) {e:Ev} (he:EvGood e) (q:GoneP P):GoneP (sD P e):=by
 have hm:EvMay P.last e:=he.may (by have:=h.ok.nw;have:=h.len;omega)
 have h1:=do_gn h.ok.wd hm
 have hL:grL (sD P e).steps=grL P.steps++grOf P.last e:=by
  show grL (P.steps++[_])=_
  unfold grL
  rw [List.filter_append,Ij,gr_is]
  congr 1
  rw [List.filter_cons]
  split<;>simp
 refine ⟨?_,?_,fun x hx=>?_⟩
 ·rw [hL,outsA_do,gq_app]
  show List.Perm _ (dq (mP P.last e).1.lives++_)
  refine (q.p.append_right _).trans ?_
  have h2:(dq P.last.lives++gq (outsA P)++grOf P.last e).Perm ((dq P.last.lives++grOf P.last e)++gq (outsA P)):=by
   rw [List.append_assoc,List.append_assoc]
   exact List.Perm.append_left _ List.perm_append_comm
  refine h2.trans ((h1.append_right _).trans ?_)
  rw [List.append_assoc]
  exact List.Perm.append_left _ List.perm_append_comm
 ·rw [hL,List.nodup_append]
  refine ⟨q.n,?_,fun a ha b hb=>?_⟩
  ·unfold grOf;split<;>simp
  ·have h2:=gr_new hb
   intro e2
   exact h2.2.1 (by rw [← e2];exact q.i a ha)
 ·rw [hL] at hx
  rcases List.mem_append.1 hx with g|g
  ·exact ids_grow (q.i x g)
  ·exact (gr_new g).2.2
theorem gone_play {c:Cf} (hc:ju c) (L:List Dd) {most:Nat} (hm:most≤1000):GoneP (iI (dy c) L most):=
 play_ind hc (Q:=GoneP) L hm ⟨by simp [grL,dq,gq,outsA,outsK,dy],by simp [grL],by simp [grL]⟩ fun P n e h hn he q=>gone_do h (by omega) he q
end Go.Proofs.YtfliffgmeobclaaGreat
