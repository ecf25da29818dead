/- Texts of the row's proof. Conditions: none. -/
import Derived.Test.YtneailjecbfljaaGreatDoorK36
namespace Go.Proofs.YtneailjecbfljaaGreatDoor
set_option maxRecDepth 100000
set_option maxHeartbeats 8000000
section
open Go.RowKit
theorem GwMay.req {X:Wd} (h:GwMay X) {R':List Rq} (hR:bG X.lives R'):GwMay { X with lives:=X.lives,reqs:=R' }:=nH h hR rfl (fun f hf=>(h.fl f hf).st) h.dr h.si
theorem um {X:Wd} {e:Ev} {L':List Lf} {R':List Rq} {ans:Int} {nw:Bool} (h:nw=false∨ans≠0∨e.kind≠6):(jE X e L' R' ans nw).1={ X with lives:=L',reqs:=R' }:=by
 unfold jE;simp only;rw [if_pos h]
def Hi (X:Wd) (e:Ev) (L':List Lf) (ans:Int) (nw:Bool):Prop:=nw=true→ans=0→e.kind=6→gU X.lives e.backend≠1→ur X.ring e.backend (bO (dK L')) 0
theorem uk {X:Wd} (h:GwMay X) {e:Ev} (he:uC e) {L':List Lf} {R':List Rq} {ans:Int} {nw:Bool} (hg:oE X.lives X.reqs ⟨e.request,fE e.kind,e.backend,e.weight,0⟩ X.now X.cf.drain L' R' ans nw) :
  bG L' R'∧Hi X e L' ans nw∧GwMay (jE X e L' R' ans nw).1:=by
 have hs:=cO h.bk
 have h0:=h.n0;have h1:=h.n1
 have hd:=h.cf.1.1
 obtain ⟨ek,er0,er1,eb0,eb1⟩:=he
 rcases hg with ⟨q,_,_,rfl,rfl,_,rfl⟩|⟨hn,⟨_,rfl,rfl,rfl,rfl⟩|⟨hl,rfl,⟨hk,hj,rfl⟩|⟨hk,hr,rfl⟩⟩⟩
 ·exact Q158
 ·exact Q158
 ·have hk6:e.kind≠6:=by intro g;simp [fE,g] at hk
  have hR:bG X.lives (X.reqs++[⟨e.request,1,e.backend,e.weight,ans⟩]):=E8 h.bk ⟨er0,er1,Or.inl rfl⟩ hn hl;rw [um (Or.inr (Or.inr hk6))];have hno:Hi X e L' ans true:=fun _ _ g=>absurd g hk6;simp only [xt] at hj;rcases hj with ⟨_,rfl,rfl⟩|⟨_,_,rfl,rfl⟩|⟨hw,⟨i,hi,hx,h4,rfl⟩,rfl⟩|⟨hw,hx,rfl,rfl⟩
  ·exact ⟨hR,hno,h.req hR⟩
  ·exact ⟨hR,hno,h.req hR⟩
  ·have hb:(lh ⟨e.request,fE e.kind,e.backend,e.weight,0⟩).backend=(X.lives.getD i Lf.zero).backend:=by
    have:=(eN ((fH X.lives e.backend).2 i hx hi)).2;exact this.symm
   have hy:eu (lh ⟨e.request,fE e.kind,e.backend,e.weight,0⟩):=⟨hw.1.1,hw.1.2,hw.2.1,hw.2.2,(by decide:(0:Int)≤0),(by decide:(0:Int)≤1099511627776),(by decide:(0:Int)≤0),(by decide:(0:Int)≤1099511628276),(by decide:(0:Int)≤0),(by decide:(0:Int)≤1048576),Or.inl ⟨rfl,rfl,rfl,rfl⟩⟩;exact ⟨nJ hR hi hy hb,hno,vF h hR hi hy hb (Or.inl rfl) (Or.inr h4) h0⟩
  ·have hy:eu (lh ⟨e.request,fE e.kind,e.backend,e.weight,0⟩):=⟨hw.1.1,hw.1.2,hw.2.1,hw.2.2,(by decide:(0:Int)≤0),(by decide:(0:Int)≤1099511627776),(by decide:(0:Int)≤0),(by decide:(0:Int)≤1099511628276),(by decide:(0:Int)≤0),(by decide:(0:Int)≤1048576),Or.inl ⟨rfl,rfl,rfl,rfl⟩⟩
   have hne:∀ g∈X.lives,g.backend≠(lh ⟨e.request,fE e.kind,e.backend,e.weight,0⟩).backend:=by
    intro g hg;rcases bJ (cE e.backend) X.lives Lf.zero with ⟨_,h6⟩|⟨i,hi,he',_⟩
    ·have:=h6 g hg;simp [cE] at this;exact this
    ·omega
   have hM:=D9 h hR hy hne rfl h0;exact ⟨hM.bk,hno,hM⟩
 ·have hk6:e.kind=6:=by
   refine Classical.byContradiction fun g=>?_;simp [fE,g] at hk
  have hR:bG X.lives (X.reqs++[⟨e.request,2,e.backend,0,ans⟩]):=E8 h.bk ⟨er0,er1,Or.inr rfl⟩ hn hl;simp only [xn] at hr;rcases hr with ⟨_,rfl,rfl⟩|⟨_,rfl,rfl⟩|⟨_,rfl,rfl⟩|⟨i,hi,hx,hst,rfl,rfl⟩
  ·exact Q87
  ·exact Q87
  ·exact Q87
  ·have hm:X.lives.getD i Lf.zero∈X.lives:=by rw [aO hi];exact Ib hi
   have hxb:(X.lives.getD i Lf.zero).backend=e.backend:=(eN ((fH X.lives e.backend).2 i hx hi)).2
   have hsB:gU X.lives e.backend=(X.lives.getD i Lf.zero).state:=by rw [← hxb];exact pG hs hm
   have hsi:=h.si _ hm;obtain ⟨a1,a2,a3,a4,a5,a6,a7,a8,a9,a10,hst4⟩:=eP h.bk hm;have u1:0≤X.now+X.cf.drain:=by omega
   have u2:X.now+X.cf.drain≤1099511628276:=by omega
   by_cases hj1:(X.lives.getD i Lf.zero).state=1
   ·have hy4:(jh (X.lives.getD i Lf.zero) ⟨e.request,2,e.backend,0,0⟩ X.now X.cf.drain).state=4:=if_pos hj1;have hy:eu (jh (X.lives.getD i Lf.zero) ⟨e.request,2,e.backend,0,0⟩ X.now X.cf.drain):=⟨a1,a2,a3,a4,a5,a6,u1,u2,er0,er1,Or.inr (Or.inr (Or.inr hy4))⟩;refine ⟨nJ hR hi hy rfl,fun _ _ _ g=>absurd (hsB.trans hj1) g,?_⟩;unfold jE;simp only;rw [if_neg (by simp [hk6]),if_pos (hsB.trans hj1)];exact vF h hR hi hy rfl (Or.inr hy4) (Or.inl hj1) hsi
   ·have hy3:(jh (X.lives.getD i Lf.zero) ⟨e.request,2,e.backend,0,0⟩ X.now X.cf.drain).state=3:=if_neg hj1;have h2:(X.lives.getD i Lf.zero).state=2:=by omega
    have hy:eu (jh (X.lives.getD i Lf.zero) ⟨e.request,2,e.backend,0,0⟩ X.now X.cf.drain):=⟨a1,a2,a3,a4,a5,a6,u1,u2,er0,er1,Or.inr (Or.inr (Or.inl hy3))⟩;have hyb:(jh (X.lives.getD i Lf.zero) ⟨e.request,2,e.backend,0,0⟩ X.now X.cf.drain).backend=e.backend:=hxb;refine ⟨nJ hR hi hy rfl,fun _ _ _ _=>?_,?_⟩
    ·have:=D1 h hi (y:=(jh (X.lives.getD i Lf.zero) ⟨e.request,2,e.backend,0,0⟩ X.now X.cf.drain)) rfl hy3 h2;rw [hyb] at this;exact this
    ·unfold jE;simp only;rw [if_neg (by simp [hk6]),if_neg (by rw [hsB];exact hj1)];have:=lI (D2 h hR hi hy rfl hy3 hsi);rw [hyb] at this;exact this
structure Goes (X Y:Wd):Prop where
 now:Y.now=X.now
 fl:∀ f∈Y.flows,(∃ g∈X.flows,g.due=f.due)∨X.now<f.due
 lv:∀ x∈Y.lives,x.state=3→x∈X.lives∨X.now<x.until_
theorem Goes.refl (X:Wd):Goes X X:=⟨rfl,fun f hf=>Or.inl ⟨f,hf,rfl⟩,fun _ h _=>Or.inl h⟩
theorem Goes.trans {X Y Z:Wd} (h:Goes X Y) (k:Goes Y Z):Goes X Z:=by
 refine ⟨k.now.trans h.now,fun f hf=>?_,fun x hx h3=>?_⟩
 ·rcases k.fl f hf with ⟨g,hg,e⟩|g
  ·rw [← e];exact h.fl g hg
  ·rw [h.now] at g;exact Or.inr g
 ·rcases k.lv x hx h3 with g|g
  ·exact h.lv x g h3
  ·rw [h.now] at g;exact Or.inr g
theorem WdMay.goes {X Y:Wd} (h:WdMay X) (hY:GwMay Y) (g:Goes X Y):WdMay Y:=by
 refine ⟨hY,fun f hf=>?_,fun x hx h3=>?_⟩
 ·rw [g.now];rcases g.fl f hf with ⟨k,hk,e⟩|k
  ·rw [← e];exact h.du k hk
  ·exact k
 ·rw [g.now];rcases g.lv x hx h3 with k|k
  ·exact h.un x k h3
  ·exact k
theorem StepS.goes {P Q:Wd×List Out} {s:Int} (h:StepS P Q s):Goes P.1 Q.1:=by
 refine ⟨h.now,fun f hf=>?_,fun x hx h3=>Or.inl (h.lv x hx h3)⟩;rcases h.fl f hf with ⟨g,_⟩|g
 ·exact Or.inl ⟨f,g,rfl⟩
 ·exact Or.inr g
theorem uP (X:Wd) (b:Int):Goes X (bZ X b).1:=by
 obtain ⟨L,e,hL,_⟩:=ju X b;rw [e];exact ⟨rfl,fun f hf=>Or.inl ⟨f,hf,rfl⟩,fun x hx h3=>Or.inl (hL x hx h3)⟩
theorem se {X:Wd} (h:GwMay X) (key:Nat):Goes X (gj X key).1:=by
 have hcn:=h.cf.1.1;unfold gj;by_cases h1:aQ fh X.tab<0
 ·rw [if_pos h1];exact .refl X
 ·rw [if_neg h1];by_cases h2:(dA X key (-1)).2≠0
  ·rw [if_pos h2];exact .refl X
  ·rw [if_neg h2];refine ⟨rfl,fun f hf=>?_,fun x hx _=>Or.inl hx⟩;rcases jk.1 hf with rfl|hf
   ·exact Or.inr (by simp only;omega)
   ·exact Or.inl ⟨f,hf,rfl⟩
theorem sA {X:Wd} (h:GwMay X) (i:Nat):Goes X (mB X i):=by
 have hcn:=h.cf.1.1;refine ⟨rfl,fun f hf=>?_,fun x hx _=>Or.inl hx⟩;rcases List.mem_or_eq_of_mem_set hf with hf|rfl
 ·exact Or.inl ⟨f,hf,rfl⟩
 ·exact Or.inr (by simp only;omega)
theorem uS {X:Wd} {i:Nat} (hi:i<X.flows.length):Goes X (iT X i):=by
 refine ⟨rfl,fun f hf=>?_,fun x hx _=>Or.inl hx⟩;rcases List.mem_or_eq_of_mem_set hf with hf|rfl
 ·exact Or.inl ⟨f,hf,rfl⟩
 ·exact Or.inl ⟨X.flows.getD i Fl.zero,by rw [aO hi];exact Ib hi,rfl⟩
theorem sE {X:Wd} (h:GwMay X) (e:Ev):Goes X (fj X e).1:=by
 unfold fj;by_cases hc:tZ X.tab e.slot e.gen≠0
 ·rw [if_pos hc];exact .refl X
 ·rw [if_neg hc];obtain ⟨hf1,hi,_,_⟩:=yy h (Decidable.not_not.1 hc);have hf:gF X e.slot:=⟨hf1,hi⟩;by_cases h3:e.kind=3
  ·rw [if_pos h3];exact (mK h hf [] 7 0).step.goes
  ·rw [if_neg h3];by_cases h2:e.kind=2
   ·rw [if_pos h2];simp only;by_cases hs:(X.flows.getD (eY X e.slot) Fl.zero).serving=true
    ·rw [if_pos hs];exact sA h _
    ·rw [if_neg hs];exact .refl X
   ·rw [if_neg h2];by_cases hs:(X.flows.getD (eY X e.slot) Fl.zero).serving=true
    ·rw [if_pos hs];exact .refl X
    ·rw [if_neg hs];by_cases hg:e.good=true
     ·rw [if_pos hg];have hfm:=h.at_ hi;obtain ⟨q,q1,q2,q3,q4,q5,q6,q7,q8,q9⟩:=h.num hfm;have hs':=pM h hi;have hN:=hs'.noted (b:=(X.flows.getD (eY X e.slot) Fl.zero).backend.toNat) (by omega) false
      have g1:Goes X (bU (iT X (eY X e.slot)) (X.flows.getD (eY X e.slot) Fl.zero).backend.toNat false):=by
       have:=uS hi;exact ⟨this.now,this.fl,this.lv⟩
      exact g1.trans (sA hN _)
     ·rw [if_neg hg];exact (sG h hf [] 3).goes
theorem BD {L:List Lf} {R:List Rq} {r:Rq} {now drain:Int} {L':List Lf} {R':List Rq} {ans:Int} {nw:Bool} (hd:1≤drain) (hg:oE L R r now drain L' R' ans nw):∀ x∈L',x.state=3→x∈L∨now<x.until_:=by
 intro x hx h3;rcases hg with ⟨q,_,_,rfl,_⟩|⟨hn,⟨_,rfl,_⟩|⟨hl,_,⟨hk,hj,_⟩|⟨hk,hr,_⟩⟩⟩
 ·exact Or.inl hx
 ·exact Or.inl hx
 ·rcases hj with ⟨_,rfl,_⟩|⟨_,_,rfl,_⟩|⟨_,⟨i,_,_,_,rfl⟩,_⟩|⟨_,_,rfl,_⟩
  ·exact Or.inl hx
  ·exact Or.inl hx
  ·rcases List.mem_or_eq_of_mem_set hx with hx|rfl
   ·exact Or.inl hx
   ·exact absurd h3 (by simp [lh])
  ·rcases (kr).1 hx with rfl|hx
   ·exact absurd h3 (by simp [lh])
   ·exact Or.inl hx
 ·rcases hr with ⟨_,rfl,_⟩|⟨_,rfl,_⟩|⟨_,rfl,_⟩|⟨i,_,_,_,rfl,_⟩
  ·exact Or.inl hx
  ·exact Or.inl hx
  ·exact Or.inl hx
  ·rcases List.mem_or_eq_of_mem_set hx with hx|rfl
   ·exact Or.inl hx
   ·exact Or.inr (by simp only [jh];omega)
theorem wV {X:Wd} (h:GwMay X) {e:Ev} {L':List Lf} {R':List Rq} {ans:Int} {nw:Bool} (hg:oE X.lives X.reqs ⟨e.request,fE e.kind,e.backend,e.weight,0⟩ X.now X.cf.drain L' R' ans nw):Goes X (jE X e L' R' ans nw).1:=by
 have hd:=h.cf.1.1;have hl:=BD (by omega) hg;have g1:∀ rg,Goes X { X with lives:=L',reqs:=R',ring:=rg }:=fun rg=>⟨rfl,fun f hf=>Or.inl ⟨f,hf,rfl⟩,hl⟩;unfold jE;simp only;by_cases h1:nw=false∨ans≠0∨e.kind≠6
 ·rw [if_pos h1];exact g1 X.ring
 ·rw [if_neg h1];by_cases h2:gU X.lives e.backend=1
  ·rw [if_pos h2];exact g1 X.ring
  ·rw [if_neg h2];exact (g1 (bO (dK L'))).trans (uP _ _)
theorem Fw {X:Wd} (h:WdMay X) {key:Nat} (hk:key<4294967296):WdMay (gj X key).1:=h.goes (CM h.gw hk) (se h.gw key)
theorem FX {X:Wd} (h:WdMay X) (e:Ev):WdMay (fj X e).1:=h.goes (DJ h.gw e) (sE h.gw e)
theorem ask_wd {X:Wd} (h:WdMay X) {e:Ev} (he:uC e) {L':List Lf} {R':List Rq} {ans:Int} {nw:Bool} (hg:oE X.lives X.reqs ⟨e.request,fE e.kind,e.backend,e.weight,0⟩ X.now X.cf.drain L' R' ans nw):WdMay (jE X e L' R' ans nw).1:=h.goes (uk h.gw he hg).2.2 (wV h.gw hg)
def jnF (L:List Lf) (r:Rq):List Lf×Int:=
 if ¬ ((0≤r.backend∧r.backend≤11)∧(1≤r.weight∧r.weight≤8)) then (L,2)
 else if aQ (cE r.backend) L<0 then (ee L (ny L r.backend) (lh r),0)
 else if (L.getD (aQ (cE r.backend) L).toNat Lf.zero).state≠4 then (L,7)
 else (L.set (aQ (cE r.backend) L).toNat (lh r),0)
theorem FN (L:List Lf) (r:Rq):xt L r (jnF L r).1 (jnF L r).2:=by
 unfold jnF;by_cases h:(0≤r.backend∧r.backend≤11)∧(1≤r.weight∧r.weight≤8)
 ·rw [if_neg (not_not_intro h)];rcases bJ (cE r.backend) L Lf.zero with ⟨e,_⟩|⟨i,hi,e,_⟩
  ·rw [if_pos (by omega)];exact Or.inr (Or.inr (Or.inr ⟨h,e,rfl,rfl⟩))
  ·rw [if_neg (by omega),e,I9];by_cases h4:(L.getD i Lf.zero).state≠4
   ·rw [if_pos h4];exact Or.inr (Or.inl ⟨h,⟨i,hi,e,h4⟩,rfl,rfl⟩)
   ·rw [if_neg h4];exact Or.inr (Or.inr (Or.inl ⟨h,⟨i,hi,e,Decidable.not_not.1 h4,rfl⟩,rfl⟩))
 ·rw [if_pos h];exact Or.inl ⟨h,rfl,rfl⟩
def rtF (L:List Lf) (r:Rq) (now drain:Int):List Lf×Int:=
 if aQ (cE r.backend) L<0 then (L,8)
 else if (L.getD (aQ (cE r.backend) L).toNat Lf.zero).state=4 then (L,8)
 else if (L.getD (aQ (cE r.backend) L).toNat Lf.zero).state=3 then (L,12)
 else (L.set (aQ (cE r.backend) L).toNat (jh (L.getD (aQ (cE r.backend) L).toNat Lf.zero) r now drain),0)
theorem Ff (L:List Lf) (r:Rq) (now drain:Int):xn L r now drain (rtF L r now drain).1 (rtF L r now drain).2:=by
 unfold rtF;rcases bJ (cE r.backend) L Lf.zero with ⟨e,_⟩|⟨i,hi,e,_⟩
 ·rw [if_pos (by omega)];exact Or.inl ⟨e,rfl,rfl⟩
 ·rw [if_neg (by omega),e,I9];by_cases h4:(L.getD i Lf.zero).state=4
  ·rw [if_pos h4];exact Or.inr (Or.inl ⟨⟨i,hi,e,h4⟩,rfl,rfl⟩)
  ·rw [if_neg h4];by_cases h3:(L.getD i Lf.zero).state=3
   ·rw [if_pos h3];exact Or.inr (Or.inr (Or.inl ⟨⟨i,hi,e,h3⟩,rfl,rfl⟩))
   ·rw [if_neg h3];exact Or.inr (Or.inr (Or.inr ⟨i,hi,e,⟨h4,h3⟩,rfl,rfl⟩))
structure AkF where
 L:List Lf
 R:List Rq
 ans:Int
 nw:Bool
def BE (L:List Lf) (R:List Rq) (r:Rq) (now drain:Int):AkF:=
 if ¬ aQ (jV r.id) R<0 then ⟨L,R,(R.getD (aQ (jV r.id) R).toNat Rq.zero).answer,false⟩
 else if R.length=100 then ⟨L,R,9,false⟩
 else if r.kind=1 then ⟨(jnF L r).1,R++[⟨r.id,1,r.backend,r.weight,(jnF L r).2⟩],(jnF L r).2,true⟩
 else ⟨(rtF L ⟨r.id,2,r.backend,0,r.answer⟩ now drain).1,R++[⟨r.id,2,r.backend,0,(rtF L ⟨r.id,2,r.backend,0,r.answer⟩ now drain).2⟩],(rtF L ⟨r.id,2,r.backend,0,r.answer⟩ now drain).2,true⟩
theorem Gt (L:List Lf) (R:List Rq) (r:Rq) (now drain:Int) (hk:r.kind=1∨r.kind=2):oE L R r now drain (BE L R r now drain).L (BE L R r now drain).R (BE L R r now drain).ans (BE L R r now drain).nw:=by
 unfold BE;rcases bJ (jV r.id) R Rq.zero with ⟨e,_⟩|⟨i,hi,e,_⟩
 ·rw [if_neg (by omega)];by_cases hl:R.length=100
  ·rw [if_pos hl];exact Or.inr ⟨e,Or.inl ⟨hl,rfl,rfl,rfl,rfl⟩⟩
  ·rw [if_neg hl];by_cases h1:r.kind=1
   ·rw [if_pos h1];exact Or.inr ⟨e,Or.inr ⟨hl,rfl,Or.inl ⟨h1,FN L r,rfl⟩⟩⟩
   ·rw [if_neg h1];exact Or.inr ⟨e,Or.inr ⟨hl,rfl,Or.inr ⟨by omega,Ff L _ now drain,rfl⟩⟩⟩
 ·rw [if_pos (by omega),e,I9];exact Or.inl ⟨i,hi,e,rfl,rfl,rfl,rfl⟩
def reqE (e:Ev):Rq:=⟨e.request,fE e.kind,e.backend,e.weight,0⟩
def wW (X:Wd) (e:Ev):AkF:=BE X.lives X.reqs (reqE e) X.now X.cf.drain
def ul (X:Wd) (e:Ev):Wd×List Out:=jE X e (wW X e).L (wW X e).R (wW X e).ans (wW X e).nw
theorem ph (X:Wd) {e:Ev} (_:e.kind=5∨e.kind=6):oE X.lives X.reqs ⟨e.request,fE e.kind,e.backend,e.weight,0⟩ X.now X.cf.drain (wW X e).L (wW X e).R (wW X e).ans (wW X e).nw:=
 Gt X.lives X.reqs (reqE e) X.now X.cf.drain (by unfold reqE fE;simp only;by_cases h:e.kind=6<;>simp [h])
def mN (X:Wd) (e:Ev):Wd×List Out:=
 if e.kind=1 then gj X e.key.toNat else if e.kind=5∨e.kind=6 then ul X e else if e.kind=7 then j9 X else fj X e
structure EvMay (X:Wd) (e:Ev):Prop where
 k0:0≤e.key
 k1:e.key≤4294967295
 r0:0≤e.request
 r1:e.request≤1048576
 b0:0≤e.backend
 b1:e.backend≤11
 tk:e.kind=7→X.now<1099511626776
theorem EvMay.ask {X:Wd} {e:Ev} (h:EvMay X e) (hk:e.kind=5∨e.kind=6):uC e:=⟨hk,h.r0,h.r1,h.b0,h.b1⟩
theorem Hc {X:Wd} (h:WdMay X) {e:Ev} (he:EvMay X e):WdMay (mN X e).1:=by
 unfold mN;by_cases h1:e.kind=1
 ·rw [if_pos h1];exact Fw h (by have:=he.k0;have:=he.k1;omega)
 ·rw [if_neg h1];by_cases h2:e.kind=5∨e.kind=6
  ·rw [if_pos h2];exact ask_wd h (he.ask h2) (ph X h2)
  ·rw [if_neg h2];by_cases h3:e.kind=7
   ·rw [if_pos h3];exact (zb h (he.tk h3)).1
   ·rw [if_neg h3];exact FX h e
theorem nc (X:Wd) (b:Int):(bZ X b).1.cf=X.cf:=by
 obtain ⟨L,e,_⟩:=ju X b;rw [e]
theorem pI {X:Wd} {b:Int} {o:Out} (h:o∈(bZ X b).2):o.kind=9:=by
 unfold bZ at h
 cases hl:dD X.lives b with
 | none=>rw [hl] at h;simp at h
 | some x=>
  rw [hl] at h;simp only at h;by_cases hc:x.state=3∧iV X.tab b X.tab.length=[]
  ·rw [if_pos hc] at h;simp at h;rw [h]
  ·rw [if_neg hc] at h;simp at h
theorem qL (X:Wd) (i:Nat) (k y:Int):(gO X i k y).1.cf=X.cf:=by unfold gO;rw [nc];rfl
theorem pf {X:Wd} {i:Nat} {k y:Int} {o:Out} (h:o∈(gO X i k y).2):o.kind=k∨o.kind=9:=by
 unfold gO at h;exact Q159
theorem zE (X:Wd) (i:Nat) (why:Int):(eU X i why).1.cf=X.cf:=by
 unfold eU;simp only
 split
 ·rw [qL]
  rfl
 ·split
  ·rw [qL]
   rfl
  ·split
   ·rfl
   ·rw [nc]
    rfl
theorem wH {X:Wd} {i:Nat} {why:Int} {o:Out} (h:o∈(eU X i why).2):o.kind=6∨o.kind=5∨o.kind=9:=by
 unfold eU at h;simp only at h
 split at h
 ·rcases pf h with h|h
  ·exact Or.inl h
  ·exact Or.inr (Or.inr h)
 ·split at h
  ·rcases pf h with h|h
   ·exact Or.inl h
   ·exact Or.inr (Or.inr h)
  ·split at h
   ·simp at h;rw [h];exact Or.inr (Or.inl rfl)
   ·rcases List.mem_cons.1 h with rfl|h
    ·exact Or.inr (Or.inl rfl)
    ·exact Or.inr (Or.inr (pI h))
theorem due_cf (P:Wd×List Out) (s:Int):(lX P s).1.cf=P.1.cf:=by
 unfold lX
 split
 ·exact qL _ _ 6 1
 ·exact zE _ _ _
theorem Ge {P:Wd×List Out} {s:Int} {o:Out} (h:o∈(lX P s).2):o∈P.2∨o.kind=6∨o.kind=5∨o.kind=9:=by
 unfold lX at h
 split at h
 ·exact Q121
 ·rcases List.mem_append.1 h with h|h
  ·exact Or.inl h
  ·exact Or.inr (wH h)
theorem cut_cf (P:Wd×List Out) (s:Int):(oO P s).1.cf=P.1.cf:=qL _ _ 6 2
theorem Gi {P:Wd×List Out} {s:Int} {o:Out} (h:o∈(oO P s).2):o∈P.2∨o.kind=6∨o.kind=5∨o.kind=9:=by
 unfold oO at h;exact Q121
theorem kT {α β γ:Type} {f:β→α→β} {g:β→γ} (h:∀ b a,g (f b a)=g b):∀ (L:List α) (b:β),g (L.foldl f b)=g b
 | [],_=>rfl
 | a :: L,b=>by rw [List.foldl_cons,kT h L,h]
theorem mG {α:Type} {f:Wd×List Out→α→Wd×List Out} {p:Out→Prop} (h:∀ P a o,o∈(f P a).2→o∈P.2∨p o):∀ (L:List α) (P:Wd×List Out) (o:Out),o∈(L.foldl f P).2→o∈P.2∨p o
 | [],_,_,ho=>Or.inl ho
 | a :: L,P,o,ho=>by
  rw [List.foldl_cons] at ho;rcases mG h L (f P a) o ho with g|g
  ·exact h P a o g
  ·exact Or.inr g
theorem DQ (P:Wd×List Out) (x:Lf):(gb P x).1.cf=P.1.cf:=by
 unfold gb
 split
 ·rfl
 ·exact kT (g:=fun P:Wd×List Out=>P.1.cf) cut_cf _ _
theorem Bp {P:Wd×List Out} {x:Lf} {o:Out} (h:o∈(gb P x).2):o∈P.2∨o.kind=6∨o.kind=5∨o.kind=9:=by
 unfold gb at h
 split at h
 ·exact Or.inl h
 ·exact mG (p:=fun o=>o.kind=6∨o.kind=5∨o.kind=9) (fun P a o h=>Gi h) _ _ _ h
theorem Cc (X:Wd):(iS X).cf=X.cf:=by
 have hf:=lG X;unfold iS;simp only;rw [hf]
 rfl
theorem F0 (X:Wd):(j9 X).1.cf=X.cf:=by
 unfold j9 bV;rw [kT (g:=fun P:Wd×List Out=>P.1.cf) DQ,kT (g:=fun P:Wd×List Out=>P.1.cf) due_cf];exact Cc X
theorem uK {X:Wd} {o:Out} (h:o∈(j9 X).2):o.kind=6∨o.kind=5∨o.kind=9:=by
 unfold j9 at h;rcases mG (p:=fun o=>o.kind=6∨o.kind=5∨o.kind=9) (fun P a o h=>Bp h) _ _ _ h with h|h
 ·unfold bV at h;rcases mG (p:=fun o=>o.kind=6∨o.kind=5∨o.kind=9) (fun P a o h=>Ge h) _ _ _ h with h|h
  ·simp at h
  ·exact h
 ·exact h
theorem Fx (X:Wd) (key:Nat):(gj X key).1.cf=X.cf:=by
 unfold gj
 split
 ·rfl
 ·split<;>rfl
theorem FY (X:Wd) (e:Ev):(fj X e).1.cf=X.cf:=by
 unfold fj
 split
 ·rfl
 ·split
  ·exact qL _ _ 7 0
  ·split
   ·simp only
    split<;>rfl
   ·split
    ·rfl
    ·split
     ·rfl
     ·exact zE _ _ _
theorem wB {X:Wd} {e:Ev} {o:Out} (h:o∈(fj X e).2):o.kind≠1:=by
 unfold fj at h
 split at h
 ·simp at h;rw [h];simp
 ·split at h
  ·rcases pf h with h|h<;>rw [h]<;>decide
  ·split at h
   ·simp at h;rw [h];simp
   ·split at h
    ·simp at h;rw [h];simp
    ·split at h
     ·simp at h;rw [h];simp
     ·rcases wH h with h|h|h<;>rw [h]<;>decide
theorem ask_cf (X:Wd) (e:Ev):(ul X e).1.cf=X.cf:=by
 unfold ul jE;simp only
 split
 ·rfl
 ·split
  ·rfl
  ·rw [nc]
theorem zK {X:Wd} {e:Ev} {o:Out} (h:o∈(ul X e).2):o.kind=8∨o.kind=9:=by
 unfold ul jE at h;simp only at h
 split at h
 ·simp at h;rw [h];exact Or.inl rfl
 ·split at h
  ·simp at h;rcases h with h|h<;>rw [h]
   ·exact Or.inl rfl
   ·exact Or.inr rfl
  ·exact Q159
theorem He (X:Wd) (e:Ev):(mN X e).1.cf=X.cf:=by
 unfold mN
 split
 ·exact Fx _ _
 ·split
  ·exact ask_cf _ _
  ·split
   ·exact F0 _
   ·exact FY _ _
def jS (h:Hd):Prop:=0≤h.slot∧h.slot≤39∧0≤h.gen∧h.gen≤1048576
def j7 (k:Int):Ev:=⟨1,k,0,0,false,0,0,0⟩
def gX (k:Int) (h:Hd) (g:Bool):Ev:=⟨k,0,h.slot,h.gen,g,0,0,0⟩
def fp (r b wt:Int):Ev:=⟨5,0,0,0,false,r,b,wt⟩
def lk (r b:Int):Ev:=⟨6,0,0,0,false,r,b,0⟩
def gW:Ev:=⟨7,0,0,0,false,0,0,0⟩
theorem FC {k:Int} (h0:0≤k) (h1:k≤4294967295):jI (j7 k) 0:=by
 refine Or.inr (Or.inr (Or.inr ⟨by simp [j7],?_,?_,rfl⟩))
 ·simp [nS,eE,zT,j7];omega
 ·simp [fV,j7,Ev.zero]
theorem ok_fl {k:Int} (hk:k=2∨k=3) {h:Hd} (hh:jS h):jI (gX k h false) 0:=by
 obtain ⟨h0,h1,h2,h3⟩:=hh;refine Or.inr (Or.inr (Or.inr ⟨by simp only [gX];omega,?_,?_,rfl⟩))
 ·rcases hk with rfl|rfl<;>simp [nS,eE,zT,gX]<;>omega
 ·rcases hk with rfl|rfl<;>simp [fV,gX,Ev.zero]
theorem ok_ans {h:Hd} (hh:jS h) (g:Bool):jI (gX 4 h g) 0:=by
 obtain ⟨h0,h1,h2,h3⟩:=hh;refine Or.inr (Or.inr (Or.inr ⟨by simp only [gX];omega,?_,?_,rfl⟩))
 ·simp [nS,eE,zT,gX];omega
 ·simp [fV,gX,Ev.zero]
theorem FE {r b wt:Int} (h0:0≤r) (h1:r≤1048576) (h2:0≤b) (h3:b≤11) (h4:1≤wt) (h5:wt≤8):jI (fp r b wt) 0:=by
 refine Or.inr (Or.inr (Or.inr ⟨by simp [fp],?_,?_,rfl⟩))
 ·simp [nS,eE,zT,fp];omega
 ·simp [fV,fp,Ev.zero]
theorem ok_ret {r b:Int} (h0:0≤r) (h1:r≤1048576) (h2:0≤b) (h3:b≤11):jI (lk r b) 0:=by
 refine Or.inr (Or.inr (Or.inr ⟨by simp [lk],?_,?_,rfl⟩))
 ·simp [nS,eE,zT,lk];omega
 ·simp [fV,lk,Ev.zero]
theorem FB:jI gW 0:=by
 refine Or.inr (Or.inr (Or.inr ⟨by decide,?_,?_,rfl⟩))
 ·simp [nS,eE,zT,gW]
 ·simp [fV,gW,Ev.zero]
structure EvGood (e:Ev):Prop where
 ok:jI e 0
 k0:0≤e.key
 k1:e.key≤4294967295
 r0:0≤e.request
 r1:e.request≤1048576
 b0:0≤e.backend
 b1:e.backend≤11
theorem EvGood.may {e:Ev} (h:EvGood e) {X:Wd} (hn:X.now<1099511626776):EvMay X e:=⟨h.k0,h.k1,h.r0,h.r1,h.b0,h.b1,fun _=>hn⟩
theorem Bj {k:Int} (h0:0≤k) (h1:k≤4294967295):EvGood (j7 k):=⟨FC h0 h1,h0,h1,Int.le_refl 0,(by decide:(0:Int)≤1048576),Int.le_refl 0,(by decide:(0:Int)≤11)⟩
theorem zC {k:Int} (hk:k=2∨k=3) {h:Hd} (hh:jS h):EvGood (gX k h false):=⟨ok_fl hk hh,Int.le_refl 0,(by decide:(0:Int)≤4294967295),Int.le_refl 0,(by decide:(0:Int)≤1048576),Int.le_refl 0,(by decide:(0:Int)≤11)⟩
theorem DH {h:Hd} (hh:jS h) (g:Bool):EvGood (gX 4 h g):=⟨ok_ans hh g,Int.le_refl 0,(by decide:(0:Int)≤4294967295),Int.le_refl 0,(by decide:(0:Int)≤1048576),Int.le_refl 0,(by decide:(0:Int)≤11)⟩
theorem sC {r b wt:Int} (h0:0≤r) (h1:r≤1048576) (h2:0≤b) (h3:b≤11) (h4:1≤wt) (h5:wt≤8):EvGood (fp r b wt):=⟨FE h0 h1 h2 h3 h4 h5,Int.le_refl 0,(by decide:(0:Int)≤4294967295),h0,h1,h2,h3⟩
theorem DG {r b:Int} (h0:0≤r) (h1:r≤1048576) (h2:0≤b) (h3:b≤11):EvGood (lk r b):=⟨ok_ret h0 h1 h2 h3,Int.le_refl 0,(by decide:(0:Int)≤4294967295),h0,h1,h2,h3⟩
theorem kR:EvGood gW:=⟨FB,by decide,by decide,by decide,by decide,by decide,by decide⟩
def pk (n m:Int):Int:=(if n<0 then -(n+1) else n) % m
theorem cU (n:Int) {m:Int} (h:0<m):0≤pk n m∧pk n m<m:=by
 unfold pk;exact ⟨Int.emod_nonneg _ (by omega),Int.emod_lt_of_pos _ h⟩
structure Dd where
 kind:Int
 a:Int
 b:Int
 c:Int
def ED (G:List Hd) (d:Dd):Hd:=if 0<G.length∧0<pk d.c 9 then G.getD (G.length - 1 - (pk d.a (min G.length 8:Nat)).toNat) ⟨0,0⟩ else ⟨pk d.a 8,pk d.b 3⟩
def Hb (G:List Hd) (d:Dd):Ev:=
 if pk d.kind 20<6 then j7 (pk d.a 100)
 else if pk d.kind 20=6 then gX 2 (ED G d) false
 else if pk d.kind 20=7 then gX 3 (ED G d) false
 else if pk d.kind 20<12 then gX 4 (ED G d) (pk d.b 2 == 0)
 else if pk d.kind 20<14 then fp (pk d.a 30) (pk d.b 5) (1+pk d.c 8)
 else if pk d.kind 20=14 then lk (pk d.a 30) (pk d.b 5)
 else gW
theorem FU {G:List Hd} (h:∀ x∈G,jS x) (d:Dd):jS (ED G d):=by
 unfold ED;by_cases hc:0<G.length∧0<pk d.c 9
 ·rw [if_pos hc];have hi:G.length - 1 - (pk d.a (min G.length 8:Nat)).toNat<G.length:=by omega
  rw [aO hi];exact h _ (Ib hi)
 ·rw [if_neg hc];have h1:=cU d.a (m:=8) (by decide);have h2:=cU d.b (m:=3) (by decide);unfold jS;simp only;omega
theorem qK {G:List Hd} (h:∀ x∈G,jS x) (d:Dd):EvGood (Hb G d):=by
 have hh:=FU h d;have a1:=cU d.a (m:=100) (by decide);have a2:=cU d.a (m:=30) (by decide);have b1:=cU d.b (m:=5) (by decide);have c1:=cU d.c (m:=8) (by decide);unfold Hb
 split
 ·exact Bj a1.1 (by omega)
 ·split
  ·exact zC (Or.inl rfl) hh
  ·split
   ·exact zC (Or.inr rfl) hh
   ·split
    ·exact DH hh _
    ·split
     ·exact sC a2.1 (by omega) b1.1 (by omega) (by omega) (by omega)
     ·split
      ·exact DG a2.1 (by omega) b1.1 (by omega)
      ·exact kR
structure Stp where
 ev:Ev
 be:Wd
 af:Wd
 out:List Out
structure lA where
 steps:List Stp
 last:Wd
 given:List Hd
def nK (O:List Out):List Hd:=(O.filter fun o=>o.kind == 1).map fun o=>⟨o.slot,o.gen⟩
def sH (p:lA) (e:Ev):lA:=⟨p.steps++[⟨e,p.last,(mN p.last e).1,(mN p.last e).2⟩],(mN p.last e).1,p.given++nK (mN p.last e).2⟩
def wK (p:lA) (d:Dd):lA:=sH p (Hb p.given d)
def begP (X:Wd):lA:=sH (sH (sH (sH ⟨[],X,[]⟩ (fp 1000 0 2)) (fp 1001 1 3)) (fp 1002 2 4)) gW
def iH (X:Wd) (L:List Dd) (most:Nat):lA:=(L.take most).foldl wK (begP X)
structure zN (c:Cf) (p:lA):Prop where
 wd:WdMay p.last
 cf:p.last.cf=c
 gi:∀ h∈p.given,jS h
 st:∀ s∈p.steps,WdMay s.be∧WdMay s.af∧EvGood s.ev∧EvMay s.be s.ev∧s.af=(mN s.be s.ev).1∧s.out=(mN s.be s.ev).2∧s.be.cf=c∧s.af.cf=c
 nw:p.last.now≤p.steps.length
theorem Ej {X:Wd} (h:GwMay X) {key:Nat}:∀ x∈nK (gj X key).2,jS x:=by
 intro x hx;unfold nK gj at hx
 split at hx
 ·simp at hx
 ·split at hx
  ·simp at hx
  ·rename_i h1 _
   rcases bJ fh X.tab Sl.zero with ⟨e,_⟩|⟨i,hi,e,_⟩
   ·omega
   ·simp [e] at hx;subst hx;have hs:=nj h.tb hi;have h40:=h.tb.2.1
    have hg:0≤(X.tab.getD i Sl.zero).gen∧(X.tab.getD i Sl.zero).gen≤1048576:=by
     unfold dv at hs
     split at hs<;>omega
    unfold jS;simp only [List.getD] at hg;simp only;omega
theorem kV {O:List Out} (h:∀ o∈O,o.kind≠1):nK O=[]:=by
 unfold nK;rw [List.filter_eq_nil_iff.2 (fun o ho=>by simpa using h o ho)]
 rfl
theorem acc_do {X:Wd} (h:GwMay X) (e:Ev):∀ x∈nK (mN X e).2,jS x:=by
 intro x hx;unfold mN at hx
 split at hx
 ·exact Ej h x hx
 ·split at hx
  ·rw [kV (fun o ho=>by rcases zK ho with g|g<;>rw [g]<;>decide)] at hx;simp at hx
  ·split at hx
   ·rw [kV (fun o ho=>by rcases uK ho with g|g|g<;>rw [g]<;>decide)] at hx;simp at hx
   ·rw [kV (fun o ho=>wB ho)] at hx;simp at hx
theorem do_now {X:Wd} (h:WdMay X) {e:Ev} (he:EvMay X e):(mN X e).1.now=if e.kind=7 then X.now+1 else X.now:=by
 unfold mN
 split
 ·rename_i h1
  rw [if_neg (by omega)];exact (se h.gw _).now
 ·split
  ·rename_i h1
   rw [if_neg (by omega)];exact (wV h.gw (ph X h1)).now
  ·split
   ·rename_i h1
    exact (zb h (he.tk h1)).2
   ·rename_i h1
    exact (sE h.gw e).now
theorem doP_ok {c:Cf} {p:lA} (h:zN c p) {e:Ev} (he:EvGood e) (hl:p.steps.length<1000000):zN c (sH p e):=by
 have hm:EvMay p.last e:=he.may (by have:=h.nw;omega);have hw:=Hc h.wd hm;have hc:=He p.last e;refine ⟨hw,hc.trans h.cf,fun x hx=>?_,fun s hs=>?_,?_⟩
 ·rcases List.mem_append.1 hx with hx|hx
  ·exact h.gi x hx
  ·exact acc_do h.wd.gw e x hx
 ·rcases List.mem_append.1 hs with hs|hs
  ·exact h.st s hs
  ·simp only [List.mem_singleton] at hs;subst hs;exact ⟨h.wd,hw,he,hm,rfl,rfl,h.cf,hc.trans h.cf⟩
 ·have h1:=do_now h.wd hm;have h2:=h.nw;show (mN p.last e).1.now≤((p.steps++[_]).length:Nat)
  rw [h1,I8];simp only [List.length_singleton]
  split<;>omega
def nk (L:List Lf) (k:Nat):List Sp:=bO (dK (L.take k))
theorem CX:dK []=List.replicate 12 0:=by decide
theorem Cn (L:List Lf):nk L 0=[]:=by
 unfold nk;rw [List.take_zero,CX];exact List.Perm.eq_nil ((fe _).trans (List.Perm.of_eq (by decide)))
theorem D0 (A B:List Lf) (b:Int):dD (A++B) b=(dD A b).or (dD B b):=List.find?_append
theorem ss {L:List Lf} (hs:L.Pairwise fun a b=>a.backend<b.backend) {k:Nat} (hk:k<L.length):dD (L.take k) (L.getD k Lf.zero).backend=none:=by
 refine List.find?_eq_none.2 fun y hy=>?_;obtain ⟨j,hj,rfl⟩:=List.mem_iff_getElem.1 hy;rw [Ie] at hj;have:=List.pairwise_iff_getElem.1 hs j k (by omega) hk (by omega);rw [aO hk,List.getElem_take];simp [cE];omega
def wtA (x:Lf):Nat:=if x.state=2 then x.weight.toNat else 0
theorem qv {L:List Lf} (hs:L.Pairwise fun a b=>a.backend<b.backend) {k:Nat} (hk:k<L.length) (h0:0≤(L.getD k Lf.zero).backend) (h1:(L.getD k Lf.zero).backend≤11):(dK (L.take k)).getD (L.getD k Lf.zero).backend.toNat 0=0:=by
 rw [ff _ (by omega),Int.toNat_of_nonneg h0,ss hs hk]
theorem sr {L:List Lf} (hs:L.Pairwise fun a b=>a.backend<b.backend) {k:Nat} (hk:k<L.length) (h0:0≤(L.getD k Lf.zero).backend) (h1:(L.getD k Lf.zero).backend≤11):dK (L.take (k+1))=(dK (L.take k)).set (L.getD k Lf.zero).backend.toNat (wtA (L.getD k Lf.zero)):=by
 have hn:=ss hs hk;have e:L.take (k+1)=L.take k++[L.getD k Lf.zero]:=by rw [I6 hk,aO hk]
 rw [e];generalize L.getD k Lf.zero=x at h0 h1 hn;refine List.ext_getElem (by simp [cB]) fun b hb1 hb2=>?_
 have hb:b<12:=by rw [cB] at hb1;exact hb1
 rw [← aO hb1 0,← aO hb2 0,ff _ hb,cN (by rw [cB];omega),ff _ hb,D0,gC];by_cases hx:x.backend=(b:Int)
 ·rw [if_pos hx,if_pos (by omega),← hx,hn];simp only [Option.none_or,wtA]
 ·rw [if_neg hx,if_neg (by omega)];simp [dD]
theorem CY {L:List Lf} (h:∀ x∈L,x.weight≤8) (b:Nat):(dK L).getD b 0≤8:=by
 by_cases hb:b<12
 ·rw [ff L hb]
  cases hl:dD L (b:Nat) with
  | none=>simp
  | some x=>
   have:=h x (eN hl).1;simp only
   split<;>omega
 ·exact Q129
theorem Cm {L:List Lf} {R:List Rq} (h:bG L R) (k:Nat):RgMay (nk L k):=pO (cB _) (CY fun _ hx=>(eP h (List.mem_of_mem_take hx)).2.2.2.1)
theorem rl_add {L:List Lf} {R:List Rq} (h:bG L R) {k:Nat} (hk:k<L.length) (hs:(L.getD k Lf.zero).state=2):yQ (nk L k) (L.getD k Lf.zero).backend (L.getD k Lf.zero).weight (nk L (k+1)) 0:=by
 have hm:L.getD k Lf.zero∈L:=by rw [aO hk];exact Ib hk
 have hb:=eP h hm;have h0:=hb.1;have h1:=hb.2.1;have h2:=hb.2.2.1;have h3:=hb.2.2.2.1;refine Or.inr (Or.inr ⟨(L.getD k Lf.zero).backend.toNat,(L.getD k Lf.zero).weight.toNat,Cm h k,by omega,by omega,by omega,by omega,by omega,Or.inr ⟨?_,?_,rfl⟩⟩)
 ·unfold nk;rw [iD (cB _)];exact qv (cO h) hk h0 h1
 ·unfold nk;rw [iD (cB _),sr (cO h) hk h0 h1];unfold wtA;rw [if_pos hs]
theorem Fi {L:List Lf} {R:List Rq} (h:bG L R) {k:Nat} (hk:k<L.length) (hs:(L.getD k Lf.zero).state≠2):nk L (k+1)=nk L k:=by
 have hm:L.getD k Lf.zero∈L:=by rw [aO hk];exact Ib hk
 have hb:=eP h hm;have h0:=hb.1;have h1:=hb.2.1;unfold nk;rw [sr (cO h) hk h0 h1];have hz:=qv (cO h) hk h0 h1;have e:wtA (L.getD k Lf.zero)=0:=if_neg hs;rw [e]
 congr 1
 exact rQ (d:=0) (by rw [cB];omega) hz
theorem rl_all {X:Wd} (h:GwMay X):nk X.lives X.lives.length=X.ring:=by unfold nk;rw [List.take_length];exact h.rg.symm
def uR (T:List Sl) (b:Int):List Int:=(iV T b T.length).map Hd.slot
theorem Gj {X:Wd} (h:GwMay X) {x:Lf} (hx:x∈X.lives) (h3:x.state=3):(gY X.tab X.tab.length).getD x.backend.toNat 0≠0:=by
 have hb:=eP h.bk hx;have h0:=hb.1;have h1:=hb.2.1;obtain ⟨f,hf,hfb⟩:=h.dr x hx h3
 have hm:f.slot∈uR X.tab x.backend:=by
  have h2:=h.fl f hf;have s0:=h2.s0;have s1:=h2.s1;exact Io.2 ⟨⟨f.slot.toNat,(X.tab.getD f.slot.toNat Sl.zero).gen⟩,iU.2 ⟨f.slot.toNat,by omega,by rw [h2.sl],by rw [h2.sl];exact hfb,rfl⟩,by simp only;omega⟩
 have hl:(gY X.tab X.tab.length).getD x.backend.toNat 0=((iV X.tab x.backend X.tab.length).length:Int):=by
  rw [aO (by rw [gP];omega)];simp only [gY,List.getElem_map,List.getElem_range];rw [Int.toNat_of_nonneg h0]
 rw [hl];intro e;have e':iV X.tab x.backend X.tab.length=[]:=List.length_eq_zero_iff.1 (by omega);unfold uR at hm;rw [e'] at hm;simp at hm
def dx (c:Cf):Wd:=⟨c,0,fS c.flows.toNat,[],[],[],[],List.replicate 12 Ht.zero,c.bb*c.bd,0,List.replicate 25 []⟩
theorem Aa:bK 0 []=List.replicate 25 []:=by
 refine List.ext_getElem (by rw [cV];simp) fun i h1 h2=>?_;rw [cV] at h1;rw [← aO (by rw [cV];exact h1) [],dO 0 [] h1,List.getElem_replicate];exact List.Perm.eq_nil (di _)
theorem Co:bO (dK [])=[]:=by
 have:=Cn [];unfold nk at this;simpa using this
theorem beg_wd {c:Cf} (h:jr c):WdMay (dx c):=by
 have hf:1≤c.flows∧c.flows≤40:=⟨h.1.2.2.1,h.1.2.2.2.1⟩;have hz:∀ s∈fS c.flows.toNat,s=Sl.zero:=fun s hs=>List.eq_of_mem_replicate hs;have hl:(fS c.flows.toNat).length=c.flows.toNat:=List.length_replicate
 have hh:∀ i,i<12→(dx c).health.getD i Ht.zero=Ht.zero:=fun i hi=>by
  show (List.replicate 12 Ht.zero).getD i Ht.zero=Ht.zero
  rw [aO (by simpa using hi),List.getElem_replicate]
 refine ⟨{ cf:=h,n0:=Int.le_refl 0,n1:=(by decide:(0:Int)≤1099511626776),tb:=?_,tl:=?_,bk:=?_,hl:=by simp [dx],ht:=fun i hi=>?_,ho:=fun i hi=>?_,t0:=?_,t1:=Int.le_refl _,rg:=Co.symm,wn:=rfl,wl:=Aa.symm,so:=List.Pairwise.nil,fl:=fun f hf=>(by simp [dx] at hf),us:=fun s hs hu=>?_,dr:=fun x hx=>(by simp [dx] at hx),si:=fun x hx=>(by simp [dx] at hx) },fun f hf=>(by simp [dx] at hf),fun x hx=>(by simp [dx] at hx)⟩
 ·refine ⟨by show 1≤(fS c.flows.toNat).length;rw [hl];omega,by show (fS c.flows.toNat).length≤40;rw [hl];omega,fun s hs=>?_⟩;rw [hz s hs];simp [dv,Sl.zero]
 ·show ((fS c.flows.toNat).length:Int)=c.flows
  rw [hl];omega
 ·exact ⟨by simp [dx],by simp [dx],fun i hi=>by simp [dx] at hi,fun x hx=>by simp [dx] at hx,by simp [dx,gN]⟩
 ·rw [hh i hi];exact Dz h.2.2 (Int.le_refl 0) (by decide:(0:Int)≤1099511627776) (zB (by have:=h.2.2.1;show 0≤c.ww;omega))
 ·rw [hh i hi];intro g;exact absurd g (by decide)
 ·show 0≤c.bb*c.bd
  have:=h.2.1;unfold i7 at this;exact Int.mul_nonneg (by omega) (by omega)
 ·have:(dx c).tab.getD s Sl.zero=Sl.zero:=by
   show (fS c.flows.toNat).getD s Sl.zero=Sl.zero
   rw [aO (show s<(fS c.flows.toNat).length from hs)];exact hz _ (Ib _)
  rw [this] at hu;exact absurd hu (by decide)
theorem cz (n m:Int) (w:World) (h0:-9223372036854775808≤n) (h1:n≤9223372036854775807) (hm:0<m) (hm2:m≤9223372036854775807):Calls Tryz.prog 14 #[.int .i64 n,.int .i64 m] w fun e w'=>e=.returned (.int .i64 (pk n m))∧w'=w:=by
 have hz:¬ m=0:=by omega
 obtain ⟨r,hr⟩:∃ r,r=pk n m:=⟨_,rfl⟩;have HR:=Hp hr;rw [← hr];clear hr;by_cases hn:n<0
 ·have e1:Int.tmod (-(n+1)) m=r:=by rw [HR.out];unfold pk;rw [if_pos hn];exact Int.tmod_eq_emod_of_nonneg (by omega)
  exact Q147
 ·have e1:Int.tmod n m=r:=by rw [HR.out];unfold pk;rw [if_neg hn];exact Int.tmod_eq_emod_of_nonneg (by omega)
  exact Q147
theorem bL (n m:Int) (w:World) (h0:-9223372036854775808≤n) (h1:n≤9223372036854775807) (hm:0<m) (hm2:m≤9223372036854775807):Calls Tryz.prog 8 #[.int .i64 n,.int .i64 m] w fun e w'=>e=.returned (.int .i64 (pk n m))∧w'=w:=by
 go_enter Tryz.func8,Tryz.ntmps8;go_wp2_with (go_at_call 14;refine (cz n m _ h0 h1 hm hm2).mono ?_;rintro e w1 ⟨rfl,rfl⟩)
 all_goals first|(go_ret;exact ⟨rfl,rfl⟩)|exact Zx
structure Su where
 a0:Int
 a1:Int
 a2:Int
 a3:Int
 a4:Int
 a5:Int
 a6:Int
 a7:Int
 a8:Int
 a9:Int
 b0:Int
 b1:Int
 b2:Int
 c0:Int
 c1:Int
 c2:Int
def Su.cells (s:Su):List Value:=[.int .i64 s.a0,.int .i64 s.a1,.int .i64 s.a2,.int .i64 s.a3,.int .i64 s.a4,.int .i64 s.a5,.int .i64 s.a6,.int .i64 s.a7,.int .i64 s.a8,.int .i64 s.a9,.int .i64 s.b0,.int .i64 s.b1,.int .i64 s.b2,.int .i64 s.c0,.int .i64 s.c1,.int .i64 s.c2]
def Bs (s:Su):Int:=1+pk s.a2 20
def C3 (s:Su):Int:=1+pk s.c0 16
def Gq (s:Su):Cf:=⟨1+pk s.a0 8,Bs s+pk s.a1 (20 - Bs s+1),Bs s,pk s.a3 4,pk s.a4 6,1+pk s.a5 5,1+pk s.a6 6,1+pk s.a7 4,pk s.a8 4,pk s.a9 101,pk s.b0 21,1+pk s.b1 20,pk s.b2 21,C3 s,1+pk s.c1 (C3 s),1+pk (Int.tmod s.c2 20) 500⟩
theorem Gp (s:Su):jr (Gq s):=by
 have h0:=cU s.a0 (m:=8) (by decide);have h2:=cU s.a2 (m:=20) (by decide);have h1:=cU s.a1 (m:=20 - Bs s+1) (by unfold Bs;omega);have h3:=cU s.a3 (m:=4) (by decide);have h4:=cU s.a4 (m:=6) (by decide);have h5:=cU s.a5 (m:=5) (by decide);have h6:=cU s.a6 (m:=6) (by decide);have h7:=cU s.a7 (m:=4) (by decide);have h8:=cU s.a8 (m:=4) (by decide);have h9:=cU s.a9 (m:=101) (by decide);have k0:=cU s.b0 (m:=21) (by decide);have k1:=cU s.b1 (m:=20) (by decide);have k2:=cU s.b2 (m:=21) (by decide);have l0:=cU s.c0 (m:=16) (by decide);have l1:=cU s.c1 (m:=C3 s) (by unfold C3;omega);have l2:=cU (Int.tmod s.c2 20) (m:=500) (by decide);have hd:Bs s=1+pk s.a2 20:=rfl;have hw:C3 s=1+pk s.c0 16:=rfl;refine ⟨⟨?_,?_,?_⟩,?_,?_⟩
 all_goals simp only [Gq,i7,gZ]
 all_goals omega
def SuI (s:Su):Prop:=∀ v∈s.cells,∃ n,v=.int .i64 n∧-9223372036854775808≤n∧n≤9223372036854775807
theorem dj (a b c:Int) (w:World) (a0:-9223372036854775808≤a) (a1:a≤9223372036854775807) (b0:-9223372036854775808≤b) (b1:b≤9223372036854775807) (c0:-9223372036854775808≤c) (c1:c≤9223372036854775807) :
  Calls Tryz.prog 15 #[.int .i64 a,.int .i64 b,.int .i64 c] w fun e w'=>e=.returned (.agg #[.int .i64 (pk a 21),.int .i64 (1+pk b 20),.int .i64 (pk c 21)])∧Below w.heap.size w w':=by
 have p1:=cU b (m:=20) (by decide)
 go_enter Tryz.func15,Tryz.ntmps15
 go_wp2_with (go_at_call 14;refine (cz _ _ _ (by assumption) (by assumption) (by omega) (by omega)).mono ?_;rintro e w1 ⟨rfl,rfl⟩)
 all_goals (refine It (v:=.agg #[.int .i64 (pk a 21),.int .i64 (1+pk b 20),.int .i64 (pk c 21)]) ?_ rfl ?_;(focus (first|(simp [results,Tryz.results15,go_sem];done)|(simp [results,Tryz.results15,go_sem, *];done)));exact ⟨rfl,Zb⟩)
theorem dw (a b c:Int) (w:World) (a0:-9223372036854775808≤a) (a1:a≤9223372036854775807) (b0:-9223372036854775808≤b) (b1:b≤9223372036854775807) (c0:-9223372036854775808≤c) (c1:c≤9223372036854775807) :
  Calls Tryz.prog 16 #[.int .i64 a,.int .i64 b,.int .i64 c] w fun e w'=>e=.returned (.agg #[.int .i64 (1+pk a 16),.int .i64 (1+pk b (1+pk a 16)),.int .i64 (1+pk c 500)])∧Below w.heap.size w w':=by
 have p1:=cU a (m:=16) (by decide)
 have p2:=cU b (m:=1+pk a 16) (by omega)
 have p3:=cU c (m:=500) (by decide)
 go_enter Tryz.func16,Tryz.ntmps16
 go_wp2_with (go_at_call 14;refine (cz _ _ _ (by assumption) (by assumption) (by omega) (by omega)).mono ?_;rintro e w1 ⟨rfl,rfl⟩)
 all_goals (refine It (v:=.agg #[.int .i64 (1+pk a 16),.int .i64 (1+pk b (1+pk a 16)),.int .i64 (1+pk c 500)]) ?_ rfl ?_;(focus (first|(simp [results,Tryz.results16,go_sem];done)|(simp [results,Tryz.results16,go_sem, *];done)));exact ⟨rfl,Zb⟩)
theorem GC {X:Wd} (e:Ev):(nK (mN X e).2).length≤1:=by
 exact Q55
def ov (X:Wd) (k:Nat):lA:=(List.range k).foldl (fun P b=>sH P (fp (1000+(b:Nat)) (b:Nat) (2+(b:Nat)))) ⟨[],X,[]⟩
theorem gD (X:Wd) (k:Nat):ov X (k+1)=sH (ov X k) (fp (1000+(k:Nat)) (k:Nat) (2+(k:Nat))):=by
 unfold ov;rw [List.range_succ,List.foldl_append]
 rfl
theorem uj (X:Wd):begP X=sH (ov X 3) gW:=by
 rw [gD,gD,gD]
 rfl
theorem Gh (P:lA) (e:Ev):(sH P e).steps.length=P.steps.length+1:=by simp [sH]
theorem Br (P:lA) (e:Ev):(sH P e).given.length≤P.given.length+1:=by
 have:=GC (X:=P.last) e;simp [sH];omega
structure PlyAt (c:Cf) (P:lA) (n:Nat):Prop where
 ok:zN c P
 len:P.steps.length=n
 gl:P.given.length≤n
theorem PlyAt.doP {c:Cf} {P:lA} {n:Nat} (h:PlyAt c P n) {e:Ev} (he:EvGood e) (hn:n≤100000):PlyAt c (sH P e) (n+1):=
 ⟨doP_ok h.ok he (by rw [h.len];omega),by rw [Gh,h.len],Il (Br P e) (Nat.succ_le_succ h.gl)⟩
theorem Fm {c:Cf} (h:jr c):PlyAt c ⟨[],dx c,[]⟩ 0:=
 ⟨⟨beg_wd h,rfl,fun _ hx=>absurd hx (by simp),fun _ hx=>absurd hx (by simp),by show (0:Int)≤_;simp⟩,rfl,Hz _⟩
theorem tY {k:Nat} (hk:k<3):EvGood (fp (1000+(k:Nat)) (k:Nat) (2+(k:Nat))):=sC (by omega) (by omega) (by omega) (by omega) (by omega) (by omega)
theorem gu {c:Cf} (h:jr c):∀ {k:Nat},k≤3→PlyAt c (ov (dx c) k) k
 | 0,_=>Fm h
 | k+1,hk=>by
  rw [gD];exact (gu h (k:=k) (by omega)).doP (tY (by omega)) (by omega)
theorem rV {c:Cf} (h:jr c):PlyAt c (begP (dx c)) 4:=by
 rw [uj];exact (gu h (Hz 3)).doP kR (by omega)
theorem qM {c:Cf}:∀ (L:List Dd) {P:lA} {n:Nat},PlyAt c P n→n+L.length≤100000→PlyAt c (L.foldl wK P) (n+L.length)
 | [],_,_,h,_=>h
 | d :: L,P,n,h,hn=>by
  rw [List.foldl_cons];have h1:=qM L (P:=wK P d) (h.doP (qK h.ok.gi d) (by simp at hn;omega)) (by simp at hn ⊢;omega);rw [show n+(d :: L).length=n+1+L.length by simp;omega];exact h1
theorem xR {c:Cf} (h:jr c) (L:List Dd) {most:Nat} (hm:most≤1000):PlyAt c (iH (dx c) L most) (4+(L.take most).length):=
 qM _ (rV h) (by simp;omega)
theorem Au (X:Wd) (L:List Dd) {k:Nat} (hk:k<L.length) (d0:Dd):iH X L (k+1)=sH (iH X L k) (Hb (iH X L k).given (L.getD k d0)):=by
 unfold iH;rw [I6 hk,List.foldl_append,aO hk]
 rfl
theorem wu {c:Cf} {Q:lA→Prop} {N:Nat} (hN:N≤2000) (hs:∀ P n e,PlyAt c P n→n<N→EvGood e→Q P→Q (sH P e)):∀ (L:List Dd) {P:lA} {n:Nat},PlyAt c P n→n+L.length≤N→Q P→Q (L.foldl wK P)
 | [],_,_,_,_,h=>h
 | d :: L,P,n,h,hn,q=>by
  have hg:=qK h.ok.gi d;exact wu hN hs L (P:=wK P d) (n:=n+1) (h.doP hg (by simp at hn;omega)) (by simp at hn ⊢;omega) (hs P n _ h (by simp at hn;omega) hg q)
theorem play_ind {c:Cf} (hc:jr c) {Q:lA→Prop} (L:List Dd) {most:Nat} (hm:most≤1000) (h0:Q ⟨[],dx c,[]⟩) (hs:∀ P n e,PlyAt c P n→n<4+most→EvGood e→Q P→Q (sH P e)):Q (iH (dx c) L most):=by
 have j:∀ k,k≤3→Q (ov (dx c) k):=by
  intro k
  induction k with
  | zero=>intro _;exact h0
  | succ k ih=>intro hk;rw [gD];exact hs _ k _ (gu hc (by omega)) (by omega) (tY (by omega)) (ih (by omega))
 refine wu (N:=4+most) (by omega) hs _ (rV hc) (by simp;omega) ?_;rw [uj];exact hs _ 3 _ (gu hc (Hz 3)) (by omega) kR (j 3 (Hz 3))
def Dd.zero:Dd:=⟨0,0,0,0⟩
end
end Go.Proofs.YtneailjecbfljaaGreatDoor
