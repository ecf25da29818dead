/- Texts of the row's proof. Conditions: none. -/
import Derived.Test.YtennppmadmgfoaaGreatDoorK34
namespace Go.Proofs.YtennppmadmgfoaaGreatDoor
open Proofs.Tryz
set_option maxRecDepth 100000
set_option maxHeartbeats 8000000
section
open Go.RowKit
theorem GwMay.req {X:Wd} (h:GwMay X) {R':List Rq} (z:bJ X.lives R'):GwMay { X with lives:=X.lives,reqs:=R' }:=oP h z rfl (fun f E=>(h.fl f E).st) h.dr h.si
theorem vN {X:Wd} {e:Ev} {L':List Lf} {R':List Rq} {h:Int} {nw:Bool} (z:nw=false\/h≠0\/e.kind≠6):(jQ X e L' R' h nw).1={ X with lives:=L',reqs:=R' }:=by
 unfold jQ;simp only;rw [if_pos z]
def KC (X:Wd) (e:Ev) (L':List Lf) (h:Int) (nw:Bool):Prop:=nw=true->h=0->e.kind=6->i8 X.lives e.backend≠1->vQ X.ring e.backend (bR (dQ L')) 0
theorem vK {X:Wd} (h:GwMay X) {e:Ev} (he:wC e) {L':List Lf} {R':List Rq} {K:Int} {nw:Bool} (hg:pJ X.lives X.reqs ⟨e.request,fM e.kind,e.backend,e.weight,0⟩ X.now X.cf.drain L' R' K nw) :
  bJ L' R'/\KC X e L' K nw/\GwMay (jQ X e L' R' K nw).1:=by
 have hs:=cU h.bk
 have h0:=h.n0;have h1:=h.n1
 have hd:=h.cf.1.1
 obtain ⟨ek,W,Y,al,am⟩:=he
 rcases hg with ⟨q,_,_,rfl,rfl,_,rfl⟩|⟨hn,⟨_,rfl,rfl,rfl,rfl⟩|⟨hl,rfl,⟨hk,hj,rfl⟩|⟨hk,hr,rfl⟩⟩⟩
 ·exact Q145
 ·exact Q145
 ·have U:e.kind≠6:=by intro g;simp [fM,g] at hk
  have hR:bJ X.lives (X.reqs++[⟨e.request,1,e.backend,e.weight,K⟩]):=GY h.bk ⟨W,Y,Or.inl rfl⟩ hn hl;rw [vN (Or.inr (Or.inr U))];have Z:KC X e L' K true:=fun _ _ g=>absurd g U;simp only [yX] at hj;rcases hj with ⟨_,rfl,rfl⟩|⟨_,_,rfl,rfl⟩|⟨J,⟨z,E,hx,h4,rfl⟩,rfl⟩|⟨J,hx,rfl,rfl⟩
  ·exact ⟨hR,Z,h.req hR⟩
  ·exact ⟨hR,Z,h.req hR⟩
  ·have hb:(lX ⟨e.request,fM e.kind,e.backend,e.weight,0⟩).backend=(X.lives.getD z Lf.zero).backend:=by
    have:=(eV ((fP X.lives e.backend).2 z hx E)).2;exact this.symm
   have I:eG (lX ⟨e.request,fM e.kind,e.backend,e.weight,0⟩):=⟨J.1.1,J.1.2,J.2.1,J.2.2,(by decide:(0:Int)<=0),(by decide:(0:Int)<=1099511627776),(by decide:(0:Int)<=0),(by decide:(0:Int)<=1099511628276),(by decide:(0:Int)<=0),(by decide:(0:Int)<=1048576),Or.inl ⟨rfl,rfl,rfl,rfl⟩⟩;exact ⟨oQ hR E I hb,Z,xM h hR E I hb (Or.inl rfl) (Or.inr h4) h0⟩
  ·have I:eG (lX ⟨e.request,fM e.kind,e.backend,e.weight,0⟩):=⟨J.1.1,J.1.2,J.2.1,J.2.2,(by decide:(0:Int)<=0),(by decide:(0:Int)<=1099511627776),(by decide:(0:Int)<=0),(by decide:(0:Int)<=1099511628276),(by decide:(0:Int)<=0),(by decide:(0:Int)<=1048576),Or.inl ⟨rfl,rfl,rfl,rfl⟩⟩
   have ag:∀ g∈X.lives,g.backend≠(lX ⟨e.request,fM e.kind,e.backend,e.weight,0⟩).backend:=by
    intro g hg;rcases bM (cM e.backend) X.lives Lf.zero with ⟨_,h6⟩|⟨z,E,an,_⟩
    ·have:=h6 g hg;simp [cM] at this;exact this
    ·omega
   have hM:=Fv h hR I ag rfl h0;exact ⟨hM.bk,Z,hM⟩
 ·have U:e.kind=6:=by
   refine Classical.byContradiction fun g=>?_;simp [fM,g] at hk
  have hR:bJ X.lives (X.reqs++[⟨e.request,2,e.backend,0,K⟩]):=GY h.bk ⟨W,Y,Or.inr rfl⟩ hn hl;simp only [yT] at hr;rcases hr with ⟨_,rfl,rfl⟩|⟨_,rfl,rfl⟩|⟨_,rfl,rfl⟩|⟨z,E,hx,ao,rfl,rfl⟩
  ·exact Q80
  ·exact Q80
  ·exact Q80
  ·have hm:X.lives.getD z Lf.zero∈X.lives:=by rw [aQ E];exact Lp E
   have ac:(X.lives.getD z Lf.zero).backend=e.backend:=(eV ((fP X.lives e.backend).2 z hx E)).2
   have a0:i8 X.lives e.backend=(X.lives.getD z Lf.zero).state:=by rw [<- ac];exact qM hs hm
   have ab:=h.si _ hm;obtain ⟨a1,a2,a3,a4,a5,a6,a7,a8,a9,ak,ar⟩:=eZ h.bk hm;have u1:0<=X.now+X.cf.drain:=by omega
   have u2:X.now+X.cf.drain<=1099511628276:=by omega
   by_cases hj1:(X.lives.getD z Lf.zero).state=1
   ·have ad:(jt (X.lives.getD z Lf.zero) ⟨e.request,2,e.backend,0,0⟩ X.now X.cf.drain).state=4:=if_pos hj1;have I:eG (jt (X.lives.getD z Lf.zero) ⟨e.request,2,e.backend,0,0⟩ X.now X.cf.drain):=⟨a1,a2,a3,a4,a5,a6,u1,u2,W,Y,Or.inr (Or.inr (Or.inr ad))⟩;refine ⟨oQ hR E I rfl,fun _ _ _ g=>absurd (a0.trans hj1) g,?_⟩;unfold jQ;simp only;rw [if_neg (by simp [U]),if_pos (a0.trans hj1)];exact xM h hR E I rfl (Or.inr ad) (Or.inl hj1) ab
   ·have aa:(jt (X.lives.getD z Lf.zero) ⟨e.request,2,e.backend,0,0⟩ X.now X.cf.drain).state=3:=if_neg hj1;have h2:(X.lives.getD z Lf.zero).state=2:=by omega
    have I:eG (jt (X.lives.getD z Lf.zero) ⟨e.request,2,e.backend,0,0⟩ X.now X.cf.drain):=⟨a1,a2,a3,a4,a5,a6,u1,u2,W,Y,Or.inr (Or.inr (Or.inl aa))⟩;have af:(jt (X.lives.getD z Lf.zero) ⟨e.request,2,e.backend,0,0⟩ X.now X.cf.drain).backend=e.backend:=ac;refine ⟨oQ hR E I rfl,fun _ _ _ _=>?_,?_⟩
    ·have:=Fn h E (y:=(jt (X.lives.getD z Lf.zero) ⟨e.request,2,e.backend,0,0⟩ X.now X.cf.drain)) rfl aa h2;rw [af] at this;exact this
    ·unfold jQ;simp only;rw [if_neg (by simp [U]),if_neg (by rw [a0];exact hj1)];have:=mj (Fo h hR E I rfl aa ab);rw [af] at this;exact this
structure Goes (X Y:Wd):Prop where
 now:Y.now=X.now
 fl:∀ f∈Y.flows,(∃ g∈X.flows,g.due=f.due)\/X.now<f.due
 lv:∀ x∈Y.lives,x.state=3->x∈X.lives\/X.now<x.until_
theorem Goes.refl (X:Wd):Goes X X:=⟨rfl,fun f z=>Or.inl ⟨f,z,rfl⟩,fun _ h _=>Or.inl h⟩
theorem Goes.trans {X E Z:Wd} (z:Goes X E) (k:Goes E Z):Goes X Z:=by
 refine ⟨k.now.trans z.now,fun U W=>?_,fun J hx I=>?_⟩
 ·rcases k.fl U W with ⟨h,Y,K⟩|h
  ·rw [<- K];exact z.fl h Y
  ·rw [z.now] at h;exact Or.inr h
 ·rcases k.lv J hx I with h|h
  ·exact z.lv J h I
  ·rw [z.now] at h;exact Or.inr h
theorem WdMay.goes {X Y:Wd} (z:WdMay X) (U:GwMay Y) (g:Goes X Y):WdMay Y:=by
 refine ⟨U,fun K W=>?_,fun I hx E=>?_⟩
 ·rw [g.now];rcases g.fl K W with ⟨h,Z,J⟩|h
  ·rw [<- J];exact z.du h Z
  ·exact h
 ·rw [g.now];rcases g.lv I hx E with h|h
  ·exact z.un I h E
  ·exact h
theorem StepS.goes {P Q:Wd×List Out} {s:Int} (z:StepS P Q s):Goes P.1 Q.1:=by
 refine ⟨z.now,fun E J=>?_,fun U K I=>Or.inl (z.lv U K I)⟩;rcases z.fl E J with ⟨h,_⟩|h
 ·exact Or.inl ⟨E,h,rfl⟩
 ·exact Or.inr h
theorem wR (X:Wd) (b:Int):Goes X (cj X b).1:=by
 obtain ⟨W,h,I,_⟩:=jF X b;rw [h];exact ⟨rfl,fun z J=>Or.inl ⟨z,J,rfl⟩,fun U K E=>Or.inl (I U K E)⟩
theorem tF {X:Wd} (E:GwMay X) (key:Nat):Goes X (gz X key).1:=by
 have J:=E.cf.1.1;unfold gz;by_cases h1:aU fv X.tab<0
 ·rw [if_pos h1];exact .refl X
 ·rw [if_neg h1];by_cases h2:(dG X key (-1)).2≠0
  ·rw [if_pos h2];exact .refl X
  ·rw [if_neg h2];refine ⟨rfl,fun z h=>?_,fun K I _=>Or.inl I⟩;rcases jv.1 h with rfl|h
   ·exact Or.inr (by simp only;omega)
   ·exact Or.inl ⟨z,h,rfl⟩
theorem tR {X:Wd} (E:GwMay X) (i:Nat):Goes X (nv X i):=by
 have J:=E.cf.1.1;refine ⟨rfl,fun z h=>?_,fun K I _=>Or.inl I⟩;rcases List.mem_or_eq_of_mem_set h with h|rfl
 ·exact Or.inl ⟨z,h,rfl⟩
 ·exact Or.inr (by simp only;omega)
theorem wU {X:Wd} {i:Nat} (z:i<X.flows.length):Goes X (j6 X i):=by
 refine ⟨rfl,fun E h=>?_,fun J I _=>Or.inl I⟩;rcases List.mem_or_eq_of_mem_set h with h|rfl
 ·exact Or.inl ⟨E,h,rfl⟩
 ·exact Or.inl ⟨X.flows.getD i Fl.zero,by rw [aQ z];exact Lp z,rfl⟩
theorem tU {X:Wd} (h:GwMay X) (e:Ev):Goes X (fx X e).1:=by
 unfold fx;by_cases hc:vy X.tab e.slot e.gen≠0
 ·rw [if_pos hc];exact .refl X
 ·rw [if_neg hc];obtain ⟨K,z,_,_⟩:=Ag h (Decidable.not_not.1 hc);have E:gN X e.slot:=⟨K,z⟩;by_cases h3:e.kind=3
  ·rw [if_pos h3];exact (nH h E [] 7 0).step.goes
  ·rw [if_neg h3];by_cases h2:e.kind=2
   ·rw [if_pos h2];simp only;by_cases hs:(X.flows.getD (fj X e.slot) Fl.zero).serving=true
    ·rw [if_pos hs];exact tR h _
    ·rw [if_neg hs];exact .refl X
   ·rw [if_neg h2];by_cases hs:(X.flows.getD (fj X e.slot) Fl.zero).serving=true
    ·rw [if_pos hs];exact .refl X
    ·rw [if_neg hs];by_cases hg:e.good=true
     ·rw [if_pos hg];have U:=h.at_ z;obtain ⟨Y,Z,q2,q3,q4,q5,q6,q7,q8,q9⟩:=h.num U;have W:=qR h z;have J:=W.noted (b:=(X.flows.getD (fj X e.slot) Fl.zero).backend.toNat) (by omega) false
      have I:Goes X (ce (j6 X (fj X e.slot)) (X.flows.getD (fj X e.slot) Fl.zero).backend.toNat false):=by
       have:=wU z;exact ⟨this.now,this.fl,this.lv⟩
      exact I.trans (tR J _)
     ·rw [if_neg hg];exact (tW h E [] 3).goes
theorem DL {L:List Lf} {R:List Rq} {r:Rq} {now drain:Int} {L':List Lf} {R':List Rq} {E:Int} {nw:Bool} (Y:1<=drain) (I:pJ L R r now drain L' R' E nw):∀ x∈L',x.state=3->x∈L\/now<x.until_:=by
 intro x h z;rcases I with ⟨q,_,_,rfl,_⟩|⟨hn,⟨_,rfl,_⟩|⟨Z,_,⟨K,J,_⟩|⟨K,U,_⟩⟩⟩
 ·exact Or.inl h
 ·exact Or.inl h
 ·rcases J with ⟨_,rfl,_⟩|⟨_,_,rfl,_⟩|⟨_,⟨W,_,_,_,rfl⟩,_⟩|⟨_,_,rfl,_⟩
  ·exact Or.inl h
  ·exact Or.inl h
  ·rcases List.mem_or_eq_of_mem_set h with h|rfl
   ·exact Or.inl h
   ·exact absurd z (by simp [lX])
  ·rcases (kM).1 h with rfl|h
   ·exact absurd z (by simp [lX])
   ·exact Or.inl h
 ·rcases U with ⟨_,rfl,_⟩|⟨_,rfl,_⟩|⟨_,rfl,_⟩|⟨W,_,_,_,rfl,_⟩
  ·exact Or.inl h
  ·exact Or.inl h
  ·exact Or.inl h
  ·rcases List.mem_or_eq_of_mem_set h with h|rfl
   ·exact Or.inl h
   ·exact Or.inr (by simp only [jt];omega)
theorem yJ {X:Wd} (J:GwMay X) {e:Ev} {L':List Lf} {R':List Rq} {h:Int} {nw:Bool} (U:pJ X.lives X.reqs ⟨e.request,fM e.kind,e.backend,e.weight,0⟩ X.now X.cf.drain L' R' h nw):Goes X (jQ X e L' R' h nw).1:=by
 have Y:=J.cf.1.1;have W:=DL (by omega) U;have z:∀ E,Goes X { X with lives:=L',reqs:=R',ring:=E }:=fun E=>⟨rfl,fun I K=>Or.inl ⟨I,K,rfl⟩,W⟩;unfold jQ;simp only;by_cases h1:nw=false\/h≠0\/e.kind≠6
 ·rw [if_pos h1];exact z X.ring
 ·rw [if_neg h1];by_cases h2:i8 X.lives e.backend=1
  ·rw [if_pos h2];exact z X.ring
  ·rw [if_neg h2];exact (z (bR (dQ L'))).trans (wR _ _)
theorem IV {X:Wd} (h:WdMay X) {key:Nat} (z:key<4294967296):WdMay (gz X key).1:=h.goes (Fa h.gw z) (tF h.gw key)
theorem Jl {X:Wd} (h:WdMay X) (e:Ev):WdMay (fx X e).1:=h.goes (Gt h.gw e) (tU h.gw e)
theorem ask_wd {X:Wd} (h:WdMay X) {e:Ev} (I:wC e) {L':List Lf} {R':List Rq} {z:Int} {nw:Bool} (E:pJ X.lives X.reqs ⟨e.request,fM e.kind,e.backend,e.weight,0⟩ X.now X.cf.drain L' R' z nw):WdMay (jQ X e L' R' z nw).1:=h.goes (vK h.gw I E).2.2 (yJ h.gw E)
def jnF (L:List Lf) (r:Rq):List Lf×Int:=
 if ¬ ((0<=r.backend/\r.backend<=11)/\(1<=r.weight/\r.weight<=8)) then (L,2)
 else if aU (cM r.backend) L<0 then (eB L (oH L r.backend) (lX r),0)
 else if (L.getD (aU (cM r.backend) L).toNat Lf.zero).state≠4 then (L,7)
 else (L.set (aU (cM r.backend) L).toNat (lX r),0)
theorem Jd (L:List Lf) (r:Rq):yX L r (jnF L r).1 (jnF L r).2:=by
 unfold jnF;by_cases h:(0<=r.backend/\r.backend<=11)/\(1<=r.weight/\r.weight<=8)
 ·rw [if_neg (not_not_intro h)];rcases bM (cM r.backend) L Lf.zero with ⟨z,_⟩|⟨E,I,z,_⟩
  ·rw [if_pos (by omega)];exact Or.inr (Or.inr (Or.inr ⟨h,z,rfl,rfl⟩))
  ·rw [if_neg (by omega),z,Lm];by_cases h4:(L.getD E Lf.zero).state≠4
   ·rw [if_pos h4];exact Or.inr (Or.inl ⟨h,⟨E,I,z,h4⟩,rfl,rfl⟩)
   ·rw [if_neg h4];exact Or.inr (Or.inr (Or.inl ⟨h,⟨E,I,z,Decidable.not_not.1 h4,rfl⟩,rfl⟩))
 ·rw [if_pos h];exact Or.inl ⟨h,rfl,rfl⟩
def rtF (L:List Lf) (r:Rq) (now drain:Int):List Lf×Int:=
 if aU (cM r.backend) L<0 then (L,8)
 else if (L.getD (aU (cM r.backend) L).toNat Lf.zero).state=4 then (L,8)
 else if (L.getD (aU (cM r.backend) L).toNat Lf.zero).state=3 then (L,12)
 else (L.set (aU (cM r.backend) L).toNat (jt (L.getD (aU (cM r.backend) L).toNat Lf.zero) r now drain),0)
theorem IC (L:List Lf) (r:Rq) (now drain:Int):yT L r now drain (rtF L r now drain).1 (rtF L r now drain).2:=by
 unfold rtF;rcases bM (cM r.backend) L Lf.zero with ⟨h,_⟩|⟨z,E,h,_⟩
 ·rw [if_pos (by omega)];exact Or.inl ⟨h,rfl,rfl⟩
 ·rw [if_neg (by omega),h,Lm];by_cases h4:(L.getD z Lf.zero).state=4
  ·rw [if_pos h4];exact Or.inr (Or.inl ⟨⟨z,E,h,h4⟩,rfl,rfl⟩)
  ·rw [if_neg h4];by_cases h3:(L.getD z Lf.zero).state=3
   ·rw [if_pos h3];exact Or.inr (Or.inr (Or.inl ⟨⟨z,E,h,h3⟩,rfl,rfl⟩))
   ·rw [if_neg h3];exact Or.inr (Or.inr (Or.inr ⟨z,E,h,⟨h4,h3⟩,rfl,rfl⟩))
structure AkF where
 L:List Lf
 R:List Rq
 ans:Int
 nw:Bool
def DM (L:List Lf) (R:List Rq) (r:Rq) (now drain:Int):AkF:=
 if ¬ aU (kq r.id) R<0 then ⟨L,R,(R.getD (aU (kq r.id) R).toNat Rq.zero).answer,false⟩
 else if R.length=100 then ⟨L,R,9,false⟩
 else if r.kind=1 then ⟨(jnF L r).1,R++[⟨r.id,1,r.backend,r.weight,(jnF L r).2⟩],(jnF L r).2,true⟩
 else ⟨(rtF L ⟨r.id,2,r.backend,0,r.answer⟩ now drain).1,R++[⟨r.id,2,r.backend,0,(rtF L ⟨r.id,2,r.backend,0,r.answer⟩ now drain).2⟩],(rtF L ⟨r.id,2,r.backend,0,r.answer⟩ now drain).2,true⟩
theorem JH (L:List Lf) (R:List Rq) (r:Rq) (now drain:Int) (I:r.kind=1\/r.kind=2):pJ L R r now drain (DM L R r now drain).L (DM L R r now drain).R (DM L R r now drain).ans (DM L R r now drain).nw:=by
 unfold DM;rcases bM (kq r.id) R Rq.zero with ⟨h,_⟩|⟨E,z,h,_⟩
 ·rw [if_neg (by omega)];by_cases hl:R.length=100
  ·rw [if_pos hl];exact Or.inr ⟨h,Or.inl ⟨hl,rfl,rfl,rfl,rfl⟩⟩
  ·rw [if_neg hl];by_cases h1:r.kind=1
   ·rw [if_pos h1];exact Or.inr ⟨h,Or.inr ⟨hl,rfl,Or.inl ⟨h1,Jd L r,rfl⟩⟩⟩
   ·rw [if_neg h1];exact Or.inr ⟨h,Or.inr ⟨hl,rfl,Or.inr ⟨by omega,IC L _ now drain,rfl⟩⟩⟩
 ·rw [if_pos (by omega),h,Lm];exact Or.inl ⟨E,z,h,rfl,rfl,rfl,rfl⟩
def reqE (e:Ev):Rq:=⟨e.request,fM e.kind,e.backend,e.weight,0⟩
def yK (X:Wd) (e:Ev):AkF:=DM X.lives X.reqs (reqE e) X.now X.cf.drain
def vM (X:Wd) (e:Ev):Wd×List Out:=jQ X e (yK X e).L (yK X e).R (yK X e).ans (yK X e).nw
theorem qx (X:Wd) {e:Ev} (_:e.kind=5\/e.kind=6):pJ X.lives X.reqs ⟨e.request,fM e.kind,e.backend,e.weight,0⟩ X.now X.cf.drain (yK X e).L (yK X e).R (yK X e).ans (yK X e).nw:=
 JH X.lives X.reqs (reqE e) X.now X.cf.drain (by unfold reqE fM;simp only;by_cases h:e.kind=6<;>simp [h])
def nM (X:Wd) (e:Ev):Wd×List Out:=
 if e.kind=1 then gz X e.key.toNat else if e.kind=5\/e.kind=6 then vM X e else if e.kind=7 then jk X else fx X e
structure EvMay (X:Wd) (e:Ev):Prop where
 k0:0<=e.key
 k1:e.key<=4294967295
 r0:0<=e.request
 r1:e.request<=1048576
 b0:0<=e.backend
 b1:e.backend<=11
 tk:e.kind=7->X.now<1099511626776
theorem EvMay.ask {X:Wd} {e:Ev} (h:EvMay X e) (z:e.kind=5\/e.kind=6):wC e:=⟨z,h.r0,h.r1,h.b0,h.b1⟩
theorem Ku {X:Wd} (h:WdMay X) {e:Ev} (z:EvMay X e):WdMay (nM X e).1:=by
 unfold nM;by_cases h1:e.kind=1
 ·rw [if_pos h1];exact IV h (by have:=z.k0;have:=z.k1;omega)
 ·rw [if_neg h1];by_cases h2:e.kind=5\/e.kind=6
  ·rw [if_pos h2];exact ask_wd h (z.ask h2) (qx X h2)
  ·rw [if_neg h2];by_cases h3:e.kind=7
   ·rw [if_pos h3];exact (AU h (z.tk h3)).1
   ·rw [if_neg h3];exact Jl h e
theorem oz (X:Wd) (b:Int):(cj X b).1.cf=X.cf:=by
 obtain ⟨L,e,_⟩:=jF X b;rw [e]
theorem qO {X:Wd} {b:Int} {o:Out} (h:o∈(cj X b).2):o.kind=9:=by
 unfold cj at h
 cases hl:dJ X.lives b with
 | none=>rw [hl] at h;simp at h
 | some x=>
  rw [hl] at h;simp only at h;by_cases hc:x.state=3/\j8 X.tab b X.tab.length=[]
  ·rw [if_pos hc] at h;simp at h;rw [h]
  ·rw [if_neg hc] at h;simp at h
theorem rV (X:Wd) (i:Nat) (k y:Int):(gV X i k y).1.cf=X.cf:=by unfold gV;rw [oz];rfl
theorem qw {X:Wd} {i:Nat} {k y:Int} {o:Out} (h:o∈(gV X i k y).2):o.kind=k\/o.kind=9:=by
 unfold gV at h;exact Q146
theorem Bv (X:Wd) (i:Nat) (h:Int):(fg X i h).1.cf=X.cf:=by
 unfold fg;simp only
 split
 ·rw [rV]
  rfl
 ·split
  ·rw [rV]
   rfl
  ·split
   ·rfl
   ·rw [oz]
    rfl
theorem yt {X:Wd} {i:Nat} {z:Int} {o:Out} (h:o∈(fg X i z).2):o.kind=6\/o.kind=5\/o.kind=9:=by
 unfold fg at h;simp only at h
 split at h
 ·rcases qw h with h|h
  ·exact Or.inl h
  ·exact Or.inr (Or.inr h)
 ·split at h
  ·rcases qw h with h|h
   ·exact Or.inl h
   ·exact Or.inr (Or.inr h)
  ·split at h
   ·simp at h;rw [h];exact Or.inr (Or.inl rfl)
   ·rcases List.mem_cons.1 h with rfl|h
    ·exact Or.inr (Or.inl rfl)
    ·exact Or.inr (Or.inr (qO h))
theorem due_cf (P:Wd×List Out) (s:Int):(mH P s).1.cf=P.1.cf:=by
 unfold mH
 split
 ·exact rV _ _ 6 1
 ·exact Bv _ _ _
theorem Js {P:Wd×List Out} {s:Int} {o:Out} (h:o∈(mH P s).2):o∈P.2\/o.kind=6\/o.kind=5\/o.kind=9:=by
 unfold mH at h
 split at h
 ·exact Q108
 ·rcases List.mem_append.1 h with h|h
  ·exact Or.inl h
  ·exact Or.inr (yt h)
theorem cut_cf (P:Wd×List Out) (s:Int):(pW P s).1.cf=P.1.cf:=rV _ _ 6 2
theorem Jw {P:Wd×List Out} {s:Int} {o:Out} (h:o∈(pW P s).2):o∈P.2\/o.kind=6\/o.kind=5\/o.kind=9:=by
 unfold pW at h;exact Q108
theorem lI {α β γ:Type} {f:β->α->β} {g:β->γ} (h:∀ b a,g (f b a)=g b):∀ (L:List α) (b:β),g (L.foldl f b)=g b
 | [],_=>rfl
 | a :: L,b=>by rw [List.foldl_cons,lI h L,h]
theorem nD {α:Type} {f:Wd×List Out->α->Wd×List Out} {p:Out->Prop} (h:∀ P a o,o∈(f P a).2->o∈P.2\/p o):∀ (L:List α) (P:Wd×List Out) (o:Out),o∈(L.foldl f P).2->o∈P.2\/p o
 | [],_,_,ho=>Or.inl ho
 | a :: L,P,o,ho=>by
  rw [List.foldl_cons] at ho;rcases nD h L (f P a) o ho with g|g
  ·exact h P a o g
  ·exact Or.inr g
theorem GD (P:Wd×List Out) (x:Lf):(gp P x).1.cf=P.1.cf:=by
 unfold gp
 split
 ·rfl
 ·exact lI (g:=fun P:Wd×List Out=>P.1.cf) cut_cf _ _
theorem Dy {P:Wd×List Out} {x:Lf} {o:Out} (h:o∈(gp P x).2):o∈P.2\/o.kind=6\/o.kind=5\/o.kind=9:=by
 unfold gp at h
 split at h
 ·exact Or.inl h
 ·exact nD (p:=fun o=>o.kind=6\/o.kind=5\/o.kind=9) (fun P a o h=>Jw h) _ _ _ h
theorem Ef (X:Wd):(j5 X).cf=X.cf:=by
 have h:=mh X;unfold j5;simp only;rw [h]
 rfl
theorem It (X:Wd):(jk X).1.cf=X.cf:=by
 unfold jk ci;rw [lI (g:=fun P:Wd×List Out=>P.1.cf) GD,lI (g:=fun P:Wd×List Out=>P.1.cf) due_cf];exact Ef X
theorem wL {X:Wd} {o:Out} (h:o∈(jk X).2):o.kind=6\/o.kind=5\/o.kind=9:=by
 unfold jk at h;rcases nD (p:=fun o=>o.kind=6\/o.kind=5\/o.kind=9) (fun P a o h=>Dy h) _ _ _ h with h|h
 ·unfold ci at h;rcases nD (p:=fun o=>o.kind=6\/o.kind=5\/o.kind=9) (fun P a o h=>Js h) _ _ _ h with h|h
  ·simp at h
  ·exact h
 ·exact h
theorem IW (X:Wd) (key:Nat):(gz X key).1.cf=X.cf:=by
 unfold gz
 split
 ·rfl
 ·split<;>rfl
theorem Jm (X:Wd) (e:Ev):(fx X e).1.cf=X.cf:=by
 unfold fx
 split
 ·rfl
 ·split
  ·exact rV _ _ 7 0
  ·split
   ·simp only
    split<;>rfl
   ·split
    ·rfl
    ·split
     ·rfl
     ·exact Bv _ _ _
theorem yl {X:Wd} {e:Ev} {o:Out} (h:o∈(fx X e).2):o.kind≠1:=by
 unfold fx at h
 split at h
 ·simp at h;rw [h];simp
 ·split at h
  ·rcases qw h with h|h<;>rw [h]<;>decide
  ·split at h
   ·simp at h;rw [h];simp
   ·split at h
    ·simp at h;rw [h];simp
    ·split at h
     ·simp at h;rw [h];simp
     ·rcases yt h with h|h|h<;>rw [h]<;>decide
theorem ask_cf (X:Wd) (e:Ev):(vM X e).1.cf=X.cf:=by
 unfold vM jQ;simp only
 split
 ·rfl
 ·split
  ·rfl
  ·rw [oz]
theorem BJ {X:Wd} {e:Ev} {o:Out} (h:o∈(vM X e).2):o.kind=8\/o.kind=9:=by
 unfold vM jQ at h;simp only at h
 split at h
 ·simp at h;rw [h];exact Or.inl rfl
 ·split at h
  ·simp at h;rcases h with h|h<;>rw [h]
   ·exact Or.inl rfl
   ·exact Or.inr rfl
  ·exact Q146
theorem Kv (X:Wd) (e:Ev):(nM X e).1.cf=X.cf:=by
 unfold nM
 split
 ·exact IW _ _
 ·split
  ·exact ask_cf _ _
  ·split
   ·exact It _
   ·exact Jm _ _
def kj (h:Hd):Prop:=0<=h.slot/\h.slot<=39/\0<=h.gen/\h.gen<=1048576
def jh (k:Int):Ev:=⟨1,k,0,0,false,0,0,0⟩
def ij (k:Int) (h:Hd) (g:Bool):Ev:=⟨k,0,h.slot,h.gen,g,0,0,0⟩
def fB (r b h:Int):Ev:=⟨5,0,0,0,false,r,b,h⟩
def lZ (r b:Int):Ev:=⟨6,0,0,0,false,r,b,0⟩
def ii:Ev:=⟨7,0,0,0,false,0,0,0⟩
theorem J2 {k:Int} (h:0<=k) (z:k<=4294967295):jU (jh k) 0:=by
 refine Or.inr (Or.inr (Or.inr ⟨by simp [jh],?_,?_,rfl⟩))
 ·simp [oZ,jO,C7,jh];omega
 ·simp [iN,jh,Ev.zero]
theorem ok_fl {k:Int} (z:k=2\/k=3) {h:Hd} (E:kj h):jU (ij k h false) 0:=by
 obtain ⟨I,J,K,U⟩:=E;refine Or.inr (Or.inr (Or.inr ⟨by simp only [ij];omega,?_,?_,rfl⟩))
 ·rcases z with rfl|rfl<;>simp [oZ,jO,C7,ij]<;>omega
 ·rcases z with rfl|rfl<;>simp [iN,ij,Ev.zero]
theorem ok_ans {h:Hd} (z:kj h) (g:Bool):jU (ij 4 h g) 0:=by
 obtain ⟨E,I,J,K⟩:=z;refine Or.inr (Or.inr (Or.inr ⟨by simp only [ij];omega,?_,?_,rfl⟩))
 ·simp [oZ,jO,C7,ij];omega
 ·simp [iN,ij,Ev.zero]
theorem J3 {r b h:Int} (z:0<=r) (E:r<=1048576) (I:0<=b) (J:b<=11) (K:1<=h) (U:h<=8):jU (fB r b h) 0:=by
 refine Or.inr (Or.inr (Or.inr ⟨by simp [fB],?_,?_,rfl⟩))
 ·simp [oZ,jO,C7,fB];omega
 ·simp [iN,fB,Ev.zero]
theorem ok_ret {r b:Int} (h:0<=r) (z:r<=1048576) (E:0<=b) (I:b<=11):jU (lZ r b) 0:=by
 refine Or.inr (Or.inr (Or.inr ⟨by simp [lZ],?_,?_,rfl⟩))
 ·simp [oZ,jO,C7,lZ];omega
 ·simp [iN,lZ,Ev.zero]
theorem J1:jU ii 0:=by
 refine Or.inr (Or.inr (Or.inr ⟨by decide,?_,?_,rfl⟩))
 ·simp [oZ,jO,C7,ii]
 ·simp [iN,ii,Ev.zero]
structure EvGood (e:Ev):Prop where
 ok:jU e 0
 k0:0<=e.key
 k1:e.key<=4294967295
 r0:0<=e.request
 r1:e.request<=1048576
 b0:0<=e.backend
 b1:e.backend<=11
theorem EvGood.may {e:Ev} (h:EvGood e) {X:Wd} (z:X.now<1099511626776):EvMay X e:=⟨h.k0,h.k1,h.r0,h.r1,h.b0,h.b1,fun _=>z⟩
theorem Ds {k:Int} (h:0<=k) (z:k<=4294967295):EvGood (jh k):=⟨J2 h z,h,z,Int.le_refl 0,(by decide:(0:Int)<=1048576),Int.le_refl 0,(by decide:(0:Int)<=11)⟩
theorem Bt {k:Int} (E:k=2\/k=3) {h:Hd} (z:kj h):EvGood (ij k h false):=⟨ok_fl E z,Int.le_refl 0,(by decide:(0:Int)<=4294967295),Int.le_refl 0,(by decide:(0:Int)<=1048576),Int.le_refl 0,(by decide:(0:Int)<=11)⟩
theorem Gq {h:Hd} (z:kj h) (g:Bool):EvGood (ij 4 h g):=⟨ok_ans z g,Int.le_refl 0,(by decide:(0:Int)<=4294967295),Int.le_refl 0,(by decide:(0:Int)<=1048576),Int.le_refl 0,(by decide:(0:Int)<=11)⟩
theorem tS {r b h:Int} (z:0<=r) (E:r<=1048576) (I:0<=b) (J:b<=11) (K:1<=h) (U:h<=8):EvGood (fB r b h):=⟨J3 z E I J K U,Int.le_refl 0,(by decide:(0:Int)<=4294967295),z,E,I,J⟩
theorem Gp {r b:Int} (h:0<=r) (z:r<=1048576) (E:0<=b) (I:b<=11):EvGood (lZ r b):=⟨ok_ret h z E I,Int.le_refl 0,(by decide:(0:Int)<=4294967295),h,z,E,I⟩
theorem lG:EvGood ii:=⟨J1,by decide,by decide,by decide,by decide,by decide,by decide⟩
def pk (n m:Int):Int:=(if n<0 then -(n+1) else n) % m
theorem cZ (n:Int) {m:Int} (h:0<m):0<=pk n m/\pk n m<m:=by
 unfold pk;exact ⟨Int.emod_nonneg _ (by omega),Int.emod_lt_of_pos _ h⟩
structure Dd where
 kind:Int
 a:Int
 b:Int
 c:Int
def I8 (G:List Hd) (d:Dd):Hd:=if 0<G.length/\0<pk d.c 9 then G.getD (G.length - 1 - (pk d.a (min G.length 8:Nat)).toNat) ⟨0,0⟩ else ⟨pk d.a 8,pk d.b 3⟩
def Kt (G:List Hd) (d:Dd):Ev:=
 if pk d.kind 20<6 then jh (pk d.a 100)
 else if pk d.kind 20=6 then ij 2 (I8 G d) false
 else if pk d.kind 20=7 then ij 3 (I8 G d) false
 else if pk d.kind 20<12 then ij 4 (I8 G d) (pk d.b 2 == 0)
 else if pk d.kind 20<14 then fB (pk d.a 30) (pk d.b 5) (1+pk d.c 8)
 else if pk d.kind 20=14 then lZ (pk d.a 30) (pk d.b 5)
 else ii
theorem Jk {G:List Hd} (z:∀ x∈G,kj x) (d:Dd):kj (I8 G d):=by
 unfold I8;by_cases hc:0<G.length/\0<pk d.c 9
 ·rw [if_pos hc];have h:G.length - 1 - (pk d.a (min G.length 8:Nat)).toNat<G.length:=by omega
  rw [aQ h];exact z _ (Lp h)
 ·rw [if_neg hc];have E:=cZ d.a (m:=8) (by decide);have I:=cZ d.b (m:=3) (by decide);unfold kj;simp only;omega
theorem rU {G:List Hd} (J:∀ x∈G,kj x) (d:Dd):EvGood (Kt G d):=by
 have h:=Jk J d;have I:=cZ d.a (m:=100) (by decide);have z:=cZ d.a (m:=30) (by decide);have E:=cZ d.b (m:=5) (by decide);have K:=cZ d.c (m:=8) (by decide);unfold Kt
 split
 ·exact Ds I.1 (by omega)
 ·split
  ·exact Bt (Or.inl rfl) h
  ·split
   ·exact Bt (Or.inr rfl) h
   ·split
    ·exact Gq h _
    ·split
     ·exact tS z.1 (by omega) E.1 (by omega) (by omega) (by omega)
     ·split
      ·exact Gp z.1 (by omega) E.1 (by omega)
      ·exact lG
structure Stp where
 ev:Ev
 be:Wd
 af:Wd
 out:List Out
structure mc where
 steps:List Stp
 last:Wd
 given:List Hd
def oR (O:List Out):List Hd:=(O.filter fun o=>o.kind == 1).map fun o=>⟨o.slot,o.gen⟩
def tX (p:mc) (e:Ev):mc:=⟨p.steps++[⟨e,p.last,(nM p.last e).1,(nM p.last e).2⟩],(nM p.last e).1,p.given++oR (nM p.last e).2⟩
def yw (p:mc) (d:Dd):mc:=tX p (Kt p.given d)
def begP (X:Wd):mc:=tX (tX (tX (tX ⟨[],X,[]⟩ (fB 1000 0 2)) (fB 1001 1 3)) (fB 1002 2 4)) ii
def iR (X:Wd) (L:List Dd) (most:Nat):mc:=(L.take most).foldl yw (begP X)
structure BM (c:Cf) (p:mc):Prop where
 wd:WdMay p.last
 cf:p.last.cf=c
 gi:∀ h∈p.given,kj h
 st:∀ s∈p.steps,WdMay s.be/\WdMay s.af/\EvGood s.ev/\EvMay s.be s.ev/\s.af=(nM s.be s.ev).1/\s.out=(nM s.be s.ev).2/\s.be.cf=c/\s.af.cf=c
 nw:p.last.now<=p.steps.length
theorem Hm {X:Wd} (E:GwMay X) {key:Nat}:∀ x∈oR (gz X key).2,kj x:=by
 intro x h;unfold oR gz at h
 split at h
 ·simp at h
 ·split at h
  ·simp at h
  ·rename_i W _
   rcases bM fv X.tab Sl.zero with ⟨z,_⟩|⟨J,U,z,_⟩
   ·omega
   ·simp [z] at h;subst h;have I:=oB E.tb U;have Y:=E.tb.2.1
    have K:0<=(X.tab.getD J Sl.zero).gen/\(X.tab.getD J Sl.zero).gen<=1048576:=by
     unfold dB at I
     split at I<;>omega
    unfold kj;simp only [List.getD] at K;simp only;omega
theorem lL {O:List Out} (h:∀ o∈O,o.kind≠1):oR O=[]:=by
 unfold oR;rw [List.filter_eq_nil_iff.2 (fun o z=>by simpa using h o z)]
 rfl
theorem acc_do {X:Wd} (J:GwMay X) (e:Ev):∀ x∈oR (nM X e).2,kj x:=by
 intro x h;unfold nM at h
 split at h
 ·exact Hm J x h
 ·split at h
  ·rw [lL (fun I E=>by rcases BJ E with z|z<;>rw [z]<;>decide)] at h;simp at h
  ·split at h
   ·rw [lL (fun I E=>by rcases wL E with z|z|z<;>rw [z]<;>decide)] at h;simp at h
   ·rw [lL (fun I E=>yl E)] at h;simp at h
theorem do_now {X:Wd} (z:WdMay X) {e:Ev} (E:EvMay X e):(nM X e).1.now=if e.kind=7 then X.now+1 else X.now:=by
 unfold nM
 split
 ·rename_i h
  rw [if_neg (by omega)];exact (tF z.gw _).now
 ·split
  ·rename_i h
   rw [if_neg (by omega)];exact (yJ z.gw (qx X h)).now
  ·split
   ·rename_i h
    exact (AU z (E.tk h)).2
   ·rename_i h
    exact (tU z.gw e).now
theorem doP_ok {c:Cf} {p:mc} (h:BM c p) {e:Ev} (K:EvGood e) (hl:p.steps.length<1000000):BM c (tX p e):=by
 have I:EvMay p.last e:=K.may (by have:=h.nw;omega);have U:=Ku h.wd I;have J:=Kv p.last e;refine ⟨U,J.trans h.cf,fun W E=>?_,fun Z z=>?_,?_⟩
 ·rcases List.mem_append.1 E with E|E
  ·exact h.gi W E
  ·exact acc_do h.wd.gw e W E
 ·rcases List.mem_append.1 z with z|z
  ·exact h.st Z z
  ·simp only [List.mem_singleton] at z;subst z;exact ⟨h.wd,U,K,I,rfl,rfl,h.cf,J.trans h.cf⟩
 ·have Y:=do_now h.wd I;have h2:=h.nw;show (nM p.last e).1.now<=((p.steps++[_]).length:Nat)
  rw [Y,Ll];simp only [List.length_singleton]
  split<;>omega
def oD (L:List Lf) (k:Nat):List Sp:=bR (dQ (L.take k))
theorem Fi:dQ []=List.replicate 12 0:=by decide
theorem Ep (L:List Lf):oD L 0=[]:=by
 unfold oD;rw [List.take_zero,Fi];exact List.Perm.eq_nil ((fq _).trans (List.Perm.of_eq (by decide)))
theorem Fm (A B:List Lf) (b:Int):dJ (A++B) b=(dJ A b).or (dJ B b):=List.find?_append
theorem tL {L:List Lf} (E:L.Pairwise fun a b=>a.backend<b.backend) {k:Nat} (h:k<L.length):dJ (L.take k) (L.getD k Lf.zero).backend=none:=by
 refine List.find?_eq_none.2 fun K I=>?_;obtain ⟨J,z,rfl⟩:=List.mem_iff_getElem.1 I;rw [Ls] at z;have:=List.pairwise_iff_getElem.1 E J k (by omega) h (by omega);rw [aQ h,List.getElem_take];simp [cM];omega
def wtA (x:Lf):Nat:=if x.state=2 then x.weight.toNat else 0
theorem rJ {L:List Lf} (E:L.Pairwise fun a b=>a.backend<b.backend) {k:Nat} (z:k<L.length) (h:0<=(L.getD k Lf.zero).backend) (I:(L.getD k Lf.zero).backend<=11):(dQ (L.take k)).getD (L.getD k Lf.zero).backend.toNat 0=0:=by
 rw [ft _ (by omega),Int.toNat_of_nonneg h,tL E z]
theorem tK {L:List Lf} (Y:L.Pairwise fun a b=>a.backend<b.backend) {k:Nat} (z:k<L.length) (K:0<=(L.getD k Lf.zero).backend) (U:(L.getD k Lf.zero).backend<=11):dQ (L.take (k+1))=(dQ (L.take k)).set (L.getD k Lf.zero).backend.toNat (wtA (L.getD k Lf.zero)):=by
 have I:=tL Y z;have J:L.take (k+1)=L.take k++[L.getD k Lf.zero]:=by rw [Li z,aQ z]
 rw [J];generalize L.getD k Lf.zero=Z at K U I;refine List.ext_getElem (by simp [cI]) fun b h W=>?_
 have E:b<12:=by rw [cI] at h;exact h
 rw [<- aQ h 0,<- aQ W 0,ft _ E,cR (by rw [cI];omega),ft _ E,Fm,gK];by_cases hx:Z.backend=(b:Int)
 ·rw [if_pos hx,if_pos (by omega),<- hx,I];simp only [Option.none_or,wtA]
 ·rw [if_neg hx,if_neg (by omega)];simp [dJ]
theorem Fj {L:List Lf} (h:∀ x∈L,x.weight<=8) (b:Nat):(dQ L).getD b 0<=8:=by
 by_cases hb:b<12
 ·rw [ft L hb]
  cases hl:dJ L (b:Nat) with
  | none=>simp
  | some x=>
   have:=h x (eV hl).1;simp only
   split<;>omega
 ·exact Q115
theorem Eo {L:List Lf} {R:List Rq} (h:bJ L R) (k:Nat):RgMay (oD L k):=qU (cI _) (Fj fun _ z=>(eZ h (List.mem_of_mem_take z)).2.2.2.1)
theorem rl_add {L:List Lf} {R:List Rq} (h:bJ L R) {k:Nat} (E:k<L.length) (U:(L.getD k Lf.zero).state=2):AE (oD L k) (L.getD k Lf.zero).backend (L.getD k Lf.zero).weight (oD L (k+1)) 0:=by
 have K:L.getD k Lf.zero∈L:=by rw [aQ E];exact Lp E
 have z:=eZ h K;have I:=z.1;have J:=z.2.1;have W:=z.2.2.1;have Y:=z.2.2.2.1;refine Or.inr (Or.inr ⟨(L.getD k Lf.zero).backend.toNat,(L.getD k Lf.zero).weight.toNat,Eo h k,by omega,by omega,by omega,by omega,by omega,Or.inr ⟨?_,?_,rfl⟩⟩)
 ·unfold oD;rw [iM (cI _)];exact rJ (cU h) E I J
 ·unfold oD;rw [iM (cI _),tK (cU h) E I J];unfold wtA;rw [if_pos U]
theorem IF {L:List Lf} {R:List Rq} (z:bJ L R) {k:Nat} (h:k<L.length) (W:(L.getD k Lf.zero).state≠2):oD L (k+1)=oD L k:=by
 have U:L.getD k Lf.zero∈L:=by rw [aQ h];exact Lp h
 have J:=eZ z U;have E:=J.1;have I:=J.2.1;unfold oD;rw [tK (cU z) h E I];have Y:=rJ (cU z) h E I;have K:wtA (L.getD k Lf.zero)=0:=if_neg W;rw [K]
 congr 1
 exact tq (d:=0) (by rw [cI];omega) Y
theorem rl_all {X:Wd} (h:GwMay X):oD X.lives X.lives.length=X.ring:=by unfold oD;rw [List.take_length];exact h.rg.symm
def wT (T:List Sl) (b:Int):List Int:=(j8 T b T.length).map Hd.slot
theorem Jy {X:Wd} (E:GwMay X) {x:Lf} (K:x∈X.lives) (Y:x.state=3):(il X.tab X.tab.length).getD x.backend.toNat 0≠0:=by
 have J:=eZ E.bk K;have W:=J.1;have h1:=J.2.1;obtain ⟨h,Z,a0⟩:=E.dr x K Y
 have I:h.slot∈wT X.tab x.backend:=by
  have z:=E.fl h Z;have s0:=z.s0;have s1:=z.s1;exact LH.2 ⟨⟨h.slot.toNat,(X.tab.getD h.slot.toNat Sl.zero).gen⟩,j7.2 ⟨h.slot.toNat,by omega,by rw [z.sl],by rw [z.sl];exact a0,rfl⟩,by simp only;omega⟩
 have hl:(il X.tab X.tab.length).getD x.backend.toNat 0=((j8 X.tab x.backend X.tab.length).length:Int):=by
  rw [aQ (by rw [gW];omega)];simp only [il,List.getElem_map,List.getElem_range];rw [Int.toNat_of_nonneg W]
 rw [hl];intro e;have U:j8 X.tab x.backend X.tab.length=[]:=List.length_eq_zero_iff.1 (by omega);unfold wT at I;rw [U] at I;simp at I
def dD (c:Cf):Wd:=⟨c,0,ga c.flows.toNat,[],[],[],[],List.replicate 12 Ht.zero,c.bb*c.bd,0,List.replicate 25 []⟩
theorem Ce:bN 0 []=List.replicate 25 []:=by
 refine List.ext_getElem (by rw [dd];simp) fun E h z=>?_;rw [dd] at h;rw [<- aQ (by rw [dd];exact h) [],dU 0 [] h,List.getElem_replicate];exact List.Perm.eq_nil (dp _)
theorem Er:bR (dQ [])=[]:=by
 have:=Ep [];unfold oD at this;simpa using this
theorem beg_wd {c:Cf} (J:jC c):WdMay (dD c):=by
 have U:1<=c.flows/\c.flows<=40:=⟨J.1.2.2.1,J.1.2.2.2.1⟩;have hz:∀ z∈ga c.flows.toNat,z=Sl.zero:=fun z K=>List.eq_of_mem_replicate K;have hl:(ga c.flows.toNat).length=c.flows.toNat:=List.length_replicate
 have Y:∀ h,h<12->(dD c).health.getD h Ht.zero=Ht.zero:=fun h E=>by
  show (List.replicate 12 Ht.zero).getD h Ht.zero=Ht.zero
  rw [aQ (by simpa using E),List.getElem_replicate]
 refine ⟨{ cf:=J,n0:=Int.le_refl 0,n1:=(by decide:(0:Int)<=1099511626776),tb:=?_,tl:=?_,bk:=?_,hl:=by simp [dD],ht:=fun h E=>?_,ho:=fun h E=>?_,t0:=?_,t1:=Int.le_refl _,rg:=Er.symm,wn:=rfl,wl:=Ce.symm,so:=List.Pairwise.nil,fl:=fun f U=>(by simp [dD] at U),us:=fun z K Z=>?_,dr:=fun W I=>(by simp [dD] at I),si:=fun W I=>(by simp [dD] at I) },fun f U=>(by simp [dD] at U),fun W I=>(by simp [dD] at I)⟩
 ·refine ⟨by show 1<=(ga c.flows.toNat).length;rw [hl];omega,by show (ga c.flows.toNat).length<=40;rw [hl];omega,fun z K=>?_⟩;rw [hz z K];simp [dB,Sl.zero]
 ·show ((ga c.flows.toNat).length:Int)=c.flows
  rw [hl];omega
 ·exact ⟨by simp [dD],by simp [dD],fun h E=>by simp [dD] at E,fun W I=>by simp [dD] at I,by simp [dD,gU]⟩
 ·rw [Y h E];exact Gh J.2.2 (Int.le_refl 0) (by decide:(0:Int)<=1099511627776) (Bs (by have:=J.2.2.1;show 0<=c.ww;omega))
 ·rw [Y h E];intro g;exact absurd g (by decide)
 ·show 0<=c.bb*c.bd
  have:=J.2.1;unfold io at this;exact Int.mul_nonneg (by omega) (by omega)
 ·have:(dD c).tab.getD z Sl.zero=Sl.zero:=by
   show (ga c.flows.toNat).getD z Sl.zero=Sl.zero
   rw [aQ (show z<(ga c.flows.toNat).length from K)];exact hz _ (Lp _)
  rw [this] at Z;exact absurd Z (by decide)
theorem cG (n m:Int) (w:World) (J:-9223372036854775808<=n) (K:n<=9223372036854775807) (U:0<m) (W:m<=9223372036854775807):Calls prog 18 #[.int .i64 n,.int .i64 m] w fun e w'=>e=.returned (.int .i64 (pk n m))/\w'=w:=by
 have Y:¬ m=0:=by omega
 obtain ⟨r,z⟩:∃ r,r=pk n m:=⟨_,rfl⟩;have E:=KL z;rw [<- z];clear z;by_cases hn:n<0
 ·have I:Int.tmod (-(n+1)) m=r:=by rw [E.out];unfold pk;rw [if_pos hn];exact Int.tmod_eq_emod_of_nonneg (by omega)
  exact Q134
 ·have I:Int.tmod n m=r:=by rw [E.out];unfold pk;rw [if_neg hn];exact Int.tmod_eq_emod_of_nonneg (by omega)
  exact Q134
theorem bO (n m:Int) (w:World) (z:-9223372036854775808<=n) (E:n<=9223372036854775807) (I:0<m) (J:m<=9223372036854775807):Calls prog 26 #[.int .i64 n,.int .i64 m] w fun e w'=>e=.returned (.int .i64 (pk n m))/\w'=w:=by
 go_in;go_wp2_with (go_at_call 18;refine (cG n m _ z E I J).mono ?_;rintro e K ⟨rfl,rfl⟩)
 all_goals first|(go_ret;exact ⟨rfl,rfl⟩)|exact Zx
structure Su where
 a0:Int
 a1:Int
 a2:Int
 a3:Int
 a4:Int
 a5:Int
 a6:Int
 a7:Int
 a8:Int
 a9:Int
 b0:Int
 b1:Int
 b2:Int
 c0:Int
 c1:Int
 c2:Int
def Su.cells (s:Su):List Value:=[.int .i64 s.a0,.int .i64 s.a1,.int .i64 s.a2,.int .i64 s.a3,.int .i64 s.a4,.int .i64 s.a5,.int .i64 s.a6,.int .i64 s.a7,.int .i64 s.a8,.int .i64 s.a9,.int .i64 s.b0,.int .i64 s.b1,.int .i64 s.b2,.int .i64 s.c0,.int .i64 s.c1,.int .i64 s.c2]
def DB (s:Su):Int:=1+pk s.a2 20
def E7 (s:Su):Int:=1+pk s.c0 16
def JE (s:Su):Cf:=⟨1+pk s.a0 8,DB s+pk s.a1 (20 - DB s+1),DB s,pk s.a3 4,pk s.a4 6,1+pk s.a5 5,1+pk s.a6 6,1+pk s.a7 4,pk s.a8 4,pk s.a9 101,pk s.b0 21,1+pk s.b1 20,pk s.b2 21,E7 s,1+pk s.c1 (E7 s),1+pk (Int.tmod s.c2 20) 500⟩
theorem JD (s:Su):jC (JE s):=by
 have h:=cZ s.a0 (m:=8) (by decide);have E:=cZ s.a2 (m:=20) (by decide);have z:=cZ s.a1 (m:=20 - DB s+1) (by unfold DB;omega);have I:=cZ s.a3 (m:=4) (by decide);have J:=cZ s.a4 (m:=6) (by decide);have K:=cZ s.a5 (m:=5) (by decide);have U:=cZ s.a6 (m:=6) (by decide);have W:=cZ s.a7 (m:=4) (by decide);have Y:=cZ s.a8 (m:=4) (by decide);have Z:=cZ s.a9 (m:=101) (by decide);have k0:=cZ s.b0 (m:=21) (by decide);have k1:=cZ s.b1 (m:=20) (by decide);have k2:=cZ s.b2 (m:=21) (by decide);have l0:=cZ s.c0 (m:=16) (by decide);have l1:=cZ s.c1 (m:=E7 s) (by unfold E7;omega);have l2:=cZ (Int.tmod s.c2 20) (m:=500) (by decide);have hd:DB s=1+pk s.a2 20:=rfl;have hw:E7 s=1+pk s.c0 16:=rfl;refine ⟨⟨?_,?_,?_⟩,?_,?_⟩
 all_goals simp only [JE,io,im]
 all_goals omega
def SuI (s:Su):Prop:=∀ v∈s.cells,∃ n,v=.int .i64 n/\-9223372036854775808<=n/\n<=9223372036854775807
theorem dt (a b c:Int) (w:World) (z:-9223372036854775808<=a) (E:a<=9223372036854775807) (I:-9223372036854775808<=b) (J:b<=9223372036854775807) (K:-9223372036854775808<=c) (U:c<=9223372036854775807) :
  Calls prog 19 #[.int .i64 a,.int .i64 b,.int .i64 c] w fun e w'=>e=.returned (.agg #[.int .i64 (pk a 21),.int .i64 (1+pk b 20),.int .i64 (pk c 21)])/\Below w.heap.size w w':=by
 have W:=cZ b (m:=20) (by decide)
 go_in
 go_wp2_with (go_at_call 18;refine (cG _ _ _ (by assumption) (by assumption) (by omega) (by omega)).mono ?_;rintro e Y ⟨rfl,rfl⟩)
 all_goals (refine LN (v:=.agg #[.int .i64 (pk a 21),.int .i64 (1+pk b 20),.int .i64 (pk c 21)]) ?_ rfl ?_;(focus (first|(simp [results,results19,go_sem];done)|(simp [results,results19,go_sem, *];done)));exact ⟨rfl,Zb⟩)
theorem dC (a b c:Int) (w:World) (z:-9223372036854775808<=a) (E:a<=9223372036854775807) (I:-9223372036854775808<=b) (J:b<=9223372036854775807) (K:-9223372036854775808<=c) (U:c<=9223372036854775807) :
  Calls prog 20 #[.int .i64 a,.int .i64 b,.int .i64 c] w fun e w'=>e=.returned (.agg #[.int .i64 (1+pk a 16),.int .i64 (1+pk b (1+pk a 16)),.int .i64 (1+pk c 500)])/\Below w.heap.size w w':=by
 have W:=cZ a (m:=16) (by decide)
 have Y:=cZ b (m:=1+pk a 16) (by omega)
 have Z:=cZ c (m:=500) (by decide)
 go_in
 go_wp2_with (go_at_call 18;refine (cG _ _ _ (by assumption) (by assumption) (by omega) (by omega)).mono ?_;rintro e w1 ⟨rfl,rfl⟩)
 all_goals (refine LN (v:=.agg #[.int .i64 (1+pk a 16),.int .i64 (1+pk b (1+pk a 16)),.int .i64 (1+pk c 500)]) ?_ rfl ?_;(focus (first|(simp [results,results20,go_sem];done)|(simp [results,results20,go_sem, *];done)));exact ⟨rfl,Zb⟩)
theorem JP {X:Wd} (e:Ev):(oR (nM X e).2).length<=1:=by
 exact Q53
def pD (X:Wd) (k:Nat):mc:=(List.range k).foldl (fun P b=>tX P (fB (1000+(b:Nat)) (b:Nat) (2+(b:Nat)))) ⟨[],X,[]⟩
theorem gL (X:Wd) (k:Nat):pD X (k+1)=tX (pD X k) (fB (1000+(k:Nat)) (k:Nat) (2+(k:Nat))):=by
 unfold pD;rw [List.range_succ,List.foldl_append]
 rfl
theorem vJ (X:Wd):begP X=tX (pD X 3) ii:=by
 rw [gL,gL,gL]
 rfl
theorem Jv (P:mc) (e:Ev):(tX P e).steps.length=P.steps.length+1:=by simp [tX]
theorem DA (P:mc) (e:Ev):(tX P e).given.length<=P.given.length+1:=by
 have:=JP (X:=P.last) e;simp [tX];omega
structure PlyAt (c:Cf) (P:mc) (n:Nat):Prop where
 ok:BM c P
 len:P.steps.length=n
 gl:P.given.length<=n
theorem PlyAt.doP {c:Cf} {P:mc} {n:Nat} (h:PlyAt c P n) {e:Ev} (z:EvGood e) (E:n<=100000):PlyAt c (tX P e) (n+1):=
 ⟨doP_ok h.ok z (by rw [h.len];omega),by rw [Jv,h.len],Lz (DA P e) (Nat.succ_le_succ h.gl)⟩
theorem IJ {c:Cf} (z:jC c):PlyAt c ⟨[],dD c,[]⟩ 0:=
 ⟨⟨beg_wd z,rfl,fun _ h=>absurd h (by simp),fun _ h=>absurd h (by simp),by show (0:Int)<=_;simp⟩,rfl,KY _⟩
theorem vx {k:Nat} (h:k<3):EvGood (fB (1000+(k:Nat)) (k:Nat) (2+(k:Nat))):=tS (by omega) (by omega) (by omega) (by omega) (by omega) (by omega)
theorem gF {c:Cf} (h:jC c):∀ {k:Nat},k<=3->PlyAt c (pD (dD c) k) k
 | 0,_=>IJ h
 | k+1,hk=>by
  rw [gL];exact (gF h (k:=k) (by omega)).doP (vx (by omega)) (by omega)
theorem tx {c:Cf} (h:jC c):PlyAt c (begP (dD c)) 4:=by
 rw [vJ];exact (gF h (KY 3)).doP lG (by omega)
theorem rX {c:Cf}:∀ (L:List Dd) {P:mc} {n:Nat},PlyAt c P n->n+L.length<=100000->PlyAt c (L.foldl yw P) (n+L.length)
 | [],_,_,h,_=>h
 | z :: L,P,n,h,hn=>by
  rw [List.foldl_cons];have E:=rX L (P:=yw P z) (h.doP (rU h.ok.gi z) (by simp at hn;omega)) (by simp at hn ⊢;omega);rw [show n+(z :: L).length=n+1+L.length by simp;omega];exact E
theorem zz {c:Cf} (h:jC c) (L:List Dd) {most:Nat} (z:most<=1000):PlyAt c (iR (dD c) L most) (4+(L.take most).length):=
 rX _ (tx h) (by simp;omega)
theorem Cy (X:Wd) (L:List Dd) {k:Nat} (h:k<L.length) (z:Dd):iR X L (k+1)=tX (iR X L k) (Kt (iR X L k).given (L.getD k z)):=by
 unfold iR;rw [Li h,List.foldl_append,aQ h]
 rfl
theorem yj {c:Cf} {Q:mc->Prop} {N:Nat} (I:N<=2000) (E:∀ P n e,PlyAt c P n->n<N->EvGood e->Q P->Q (tX P e)):∀ (L:List Dd) {P:mc} {n:Nat},PlyAt c P n->n+L.length<=N->Q P->Q (L.foldl yw P)
 | [],_,_,_,_,h=>h
 | d :: L,P,n,h,hn,q=>by
  have z:=rU h.ok.gi d;exact yj I E L (P:=yw P d) (n:=n+1) (h.doP z (by simp at hn;omega)) (by simp at hn ⊢;omega) (E P n _ h (by simp at hn;omega) z q)
theorem play_ind {c:Cf} (z:jC c) {Q:mc->Prop} (L:List Dd) {most:Nat} (U:most<=1000) (I:Q ⟨[],dD c,[]⟩) (E:∀ P n e,PlyAt c P n->n<4+most->EvGood e->Q P->Q (tX P e)):Q (iR (dD c) L most):=by
 have J:∀ h,h<=3->Q (pD (dD c) h):=by
  intro h
  induction h with
  | zero=>intro _;exact I
  | succ h ih=>intro K;rw [gL];exact E _ h _ (gF z (by omega)) (by omega) (vx (by omega)) (ih (by omega))
 refine yj (N:=4+most) (by omega) E _ (tx z) (by simp;omega) ?_;rw [vJ];exact E _ 3 _ (gF z (KY 3)) (by omega) lG (J 3 (KY 3))
def Dd.zero:Dd:=⟨0,0,0,0⟩
end
end Go.Proofs.YtennppmadmgfoaaGreatDoor
