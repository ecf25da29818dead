/- Texts of the row's proof. Conditions: none. -/
import Derived.Test.YtocbhafgjepnjaaGreatK37
namespace Go.Proofs.YtocbhafgjepnjaaGreat
set_option maxRecDepth 100000
set_option maxHeartbeats 8000000
section
open Go.RowKit
theorem GwMay.req {X:Wd} (h:GwMay X) {R':List Rq} (hR:bF X.lives R'):GwMay { X with lives:=X.lives,reqs:=R' }:=nD h hR rfl (fun f hf=>(h.fl f hf).st) h.dr h.si
theorem uh {X:Wd} {e:Ev} {L':List Lf} {R':List Rq} {ans:Int} {nw:Bool} (h:nw=false∨ans≠0∨e.kind≠6):(jb X e L' R' ans nw).1={ X with lives:=L',reqs:=R' }:=by
 unfold jb;simp only;rw [if_pos h]
def I4 (X:Wd) (e:Ev) (L':List Lf) (ans:Int) (nw:Bool):Prop:=nw=true→ans=0→e.kind=6→gp X.lives e.backend≠1→uk X.ring e.backend (bN (dK L')) 0
theorem ug {X:Wd} (h:GwMay X) {e:Ev} (he:ux e) {L':List Lf} {R':List Rq} {ans:Int} {nw:Bool} (hg:ov X.lives X.reqs ⟨e.request,fy e.kind,e.backend,e.weight,0⟩ X.now X.cf.drain L' R' ans nw) :
  bF L' R'∧I4 X e L' ans nw∧GwMay (jb X e L' R' ans nw).1:=by
 have hs:=bZ h.bk
 have h0:=h.n0;have h1:=h.n1
 have hd:=h.cf.1.1
 obtain ⟨ek,er0,er1,eb0,eb1⟩:=he
 rcases hg with ⟨q,_,_,rfl,rfl,_,rfl⟩|⟨hn,⟨_,rfl,rfl,rfl,rfl⟩|⟨hl,rfl,⟨hk,hj,rfl⟩|⟨hk,hr,rfl⟩⟩⟩
 ·exact Q164
 ·exact Q164
 ·have hk6:e.kind≠6:=by intro g;simp [fy,g] at hk
  have hR:bF X.lives (X.reqs++[⟨e.request,1,e.backend,e.weight,ans⟩]):=Eo h.bk ⟨er0,er1,Or.inl rfl⟩ hn hl;rw [uh (Or.inr (Or.inr hk6))];have hno:I4 X e L' ans true:=fun _ _ g=>absurd g hk6;simp only [xq] at hj;rcases hj with ⟨_,rfl,rfl⟩|⟨_,_,rfl,rfl⟩|⟨hw,⟨i,hi,hx,h4,rfl⟩,rfl⟩|⟨hw,hx,rfl,rfl⟩
  ·exact ⟨hR,hno,h.req hR⟩
  ·exact ⟨hR,hno,h.req hR⟩
  ·have hb:(jm ⟨e.request,fy e.kind,e.backend,e.weight,0⟩).backend=(X.lives.getD i Lf.zero).backend:=by
    have:=(dj ((fD X.lives e.backend).2 i hx hi)).2;exact this.symm
   have hy:ex (jm ⟨e.request,fy e.kind,e.backend,e.weight,0⟩):=⟨hw.1.1,hw.1.2,hw.2.1,hw.2.2,(by decide:(0:Int)≤0),(by decide:(0:Int)≤1099511627776),(by decide:(0:Int)≤0),(by decide:(0:Int)≤1099511628276),(by decide:(0:Int)≤0),(by decide:(0:Int)≤1048576),Or.inl ⟨rfl,rfl,rfl,rfl⟩⟩;exact ⟨nE hR hi hy hb,hno,vD h hR hi hy hb (Or.inl rfl) (Or.inr h4) h0⟩
  ·have hy:ex (jm ⟨e.request,fy e.kind,e.backend,e.weight,0⟩):=⟨hw.1.1,hw.1.2,hw.2.1,hw.2.2,(by decide:(0:Int)≤0),(by decide:(0:Int)≤1099511627776),(by decide:(0:Int)≤0),(by decide:(0:Int)≤1099511628276),(by decide:(0:Int)≤0),(by decide:(0:Int)≤1048576),Or.inl ⟨rfl,rfl,rfl,rfl⟩⟩
   have hne:∀ g∈X.lives,g.backend≠(jm ⟨e.request,fy e.kind,e.backend,e.weight,0⟩).backend:=by
    intro g hg;rcases b8 (cq e.backend) X.lives Lf.zero with ⟨_,h6⟩|⟨i,hi,he',_⟩
    ·have:=h6 g hg;simp [cq] at this;exact this
    ·omega
   have hM:=Dp h hR hy hne rfl h0;exact ⟨hM.bk,hno,hM⟩
 ·have hk6:e.kind=6:=by
   refine Classical.byContradiction fun g=>?_;simp [fy,g] at hk
  have hR:bF X.lives (X.reqs++[⟨e.request,2,e.backend,0,ans⟩]):=Eo h.bk ⟨er0,er1,Or.inr rfl⟩ hn hl;simp only [xj] at hr;rcases hr with ⟨_,rfl,rfl⟩|⟨_,rfl,rfl⟩|⟨_,rfl,rfl⟩|⟨i,hi,hx,hst,rfl,rfl⟩
  ·exact Q91
  ·exact Q91
  ·exact Q91
  ·have hm:X.lives.getD i Lf.zero∈X.lives:=by rw [aK hi];exact Iw hi
   have hxb:(X.lives.getD i Lf.zero).backend=e.backend:=(dj ((fD X.lives e.backend).2 i hx hi)).2
   have hsB:gp X.lives e.backend=(X.lives.getD i Lf.zero).state:=by rw [← hxb];exact pD hs hm
   have hsi:=h.si _ hm;obtain ⟨a1,a2,a3,a4,a5,a6,a7,a8,a9,a10,hst4⟩:=dz h.bk hm;have u1:0≤X.now+X.cf.drain:=by omega
   have u2:X.now+X.cf.drain≤1099511628276:=by omega
   by_cases hj1:(X.lives.getD i Lf.zero).state=1
   ·have hy4:(iG (X.lives.getD i Lf.zero) ⟨e.request,2,e.backend,0,0⟩ X.now X.cf.drain).state=4:=if_pos hj1;have hy:ex (iG (X.lives.getD i Lf.zero) ⟨e.request,2,e.backend,0,0⟩ X.now X.cf.drain):=⟨a1,a2,a3,a4,a5,a6,u1,u2,er0,er1,Or.inr (Or.inr (Or.inr hy4))⟩;refine ⟨nE hR hi hy rfl,fun _ _ _ g=>absurd (hsB.trans hj1) g,?_⟩;unfold jb;simp only;rw [if_neg (by simp [hk6]),if_pos (hsB.trans hj1)];exact vD h hR hi hy rfl (Or.inr hy4) (Or.inl hj1) hsi
   ·have hy3:(iG (X.lives.getD i Lf.zero) ⟨e.request,2,e.backend,0,0⟩ X.now X.cf.drain).state=3:=if_neg hj1;have h2:(X.lives.getD i Lf.zero).state=2:=by omega
    have hy:ex (iG (X.lives.getD i Lf.zero) ⟨e.request,2,e.backend,0,0⟩ X.now X.cf.drain):=⟨a1,a2,a3,a4,a5,a6,u1,u2,er0,er1,Or.inr (Or.inr (Or.inl hy3))⟩;have hyb:(iG (X.lives.getD i Lf.zero) ⟨e.request,2,e.backend,0,0⟩ X.now X.cf.drain).backend=e.backend:=hxb;refine ⟨nE hR hi hy rfl,fun _ _ _ _=>?_,?_⟩
    ·have:=Dg h hi (y:=(iG (X.lives.getD i Lf.zero) ⟨e.request,2,e.backend,0,0⟩ X.now X.cf.drain)) rfl hy3 h2;rw [hyb] at this;exact this
    ·unfold jb;simp only;rw [if_neg (by simp [hk6]),if_neg (by rw [hsB];exact hj1)];have:=lH (Dh h hR hi hy rfl hy3 hsi);rw [hyb] at this;exact this
structure Goes (X Y:Wd):Prop where
 now:Y.now=X.now
 fl:∀ f∈Y.flows,(∃ g∈X.flows,g.due=f.due)∨X.now<f.due
 lv:∀ x∈Y.lives,x.state=3→x∈X.lives∨X.now<x.until_
theorem Goes.refl (X:Wd):Goes X X:=⟨rfl,fun f hf=>Or.inl ⟨f,hf,rfl⟩,fun _ h _=>Or.inl h⟩
theorem Goes.trans {X Y Z:Wd} (h:Goes X Y) (k:Goes Y Z):Goes X Z:=by
 refine ⟨k.now.trans h.now,fun f hf=>?_,fun x hx h3=>?_⟩
 ·rcases k.fl f hf with ⟨g,hg,e⟩|g
  ·rw [← e];exact h.fl g hg
  ·rw [h.now] at g;exact Or.inr g
 ·rcases k.lv x hx h3 with g|g
  ·exact h.lv x g h3
  ·rw [h.now] at g;exact Or.inr g
theorem WdMay.goes {X Y:Wd} (h:WdMay X) (hY:GwMay Y) (g:Goes X Y):WdMay Y:=by
 refine ⟨hY,fun f hf=>?_,fun x hx h3=>?_⟩
 ·rw [g.now];rcases g.fl f hf with ⟨k,hk,e⟩|k
  ·rw [← e];exact h.du k hk
  ·exact k
 ·rw [g.now];rcases g.lv x hx h3 with k|k
  ·exact h.un x k h3
  ·exact k
theorem StepS.goes {P Q:Wd×List Out} {s:Int} (h:StepS P Q s):Goes P.1 Q.1:=by
 refine ⟨h.now,fun f hf=>?_,fun x hx h3=>Or.inl (h.lv x hx h3)⟩;rcases h.fl f hf with ⟨g,_⟩|g
 ·exact Or.inl ⟨f,g,rfl⟩
 ·exact Or.inr g
theorem uM (X:Wd) (b:Int):Goes X (bP X b).1:=by
 obtain ⟨L,e,hL,_⟩:=iy X b;rw [e];exact ⟨rfl,fun f hf=>Or.inl ⟨f,hf,rfl⟩,fun x hx h3=>Or.inl (hL x hx h3)⟩
theorem sd {X:Wd} (h:GwMay X) (key:Nat):Goes X (ep X key).1:=by
 have hcn:=h.cf.1.1;unfold ep;by_cases h1:aN dH X.tab<0
 ·rw [if_pos h1];exact .refl X
 ·rw [if_neg h1];by_cases h2:(dp X key (-1)).2≠0
  ·rw [if_pos h2];exact .refl X
  ·rw [if_neg h2];refine ⟨rfl,fun f hf=>?_,fun x hx _=>Or.inl hx⟩;rcases jp.1 hf with rfl|hf
   ·exact Or.inr (by simp only;omega)
   ·exact Or.inl ⟨f,hf,rfl⟩
theorem sv {X:Wd} (h:GwMay X) (i:Nat):Goes X (kt X i):=by
 have hcn:=h.cf.1.1;refine ⟨rfl,fun f hf=>?_,fun x hx _=>Or.inl hx⟩;rcases List.mem_or_eq_of_mem_set hf with hf|rfl
 ·exact Or.inl ⟨f,hf,rfl⟩
 ·exact Or.inr (by simp only;omega)
theorem uP {X:Wd} {i:Nat} (hi:i<X.flows.length):Goes X (gZ X i):=by
 refine ⟨rfl,fun f hf=>?_,fun x hx _=>Or.inl hx⟩;rcases List.mem_or_eq_of_mem_set hf with hf|rfl
 ·exact Or.inl ⟨f,hf,rfl⟩
 ·exact Or.inl ⟨X.flows.getD i Fl.zero,by rw [aK hi];exact Iw hi,rfl⟩
theorem sy {X:Wd} (h:GwMay X) (e:Ev):Goes X (ez X e).1:=by
 unfold ez;by_cases hc:rE X.tab e.slot e.gen≠0
 ·rw [if_pos hc];exact .refl X
 ·rw [if_neg hc];obtain ⟨hf1,hi,_,_⟩:=tY h (Decidable.not_not.1 hc);have hf:gc X e.slot:=⟨hf1,hi⟩;by_cases h3:e.kind=3
  ·rw [if_pos h3];exact (mI h hf [] 7 0).step.goes
  ·rw [if_neg h3];by_cases h2:e.kind=2
   ·rw [if_pos h2];simp only;by_cases hs:(X.flows.getD (eV X e.slot) Fl.zero).serving=true
    ·rw [if_pos hs];exact sv h _
    ·rw [if_neg hs];exact .refl X
   ·rw [if_neg h2];by_cases hs:(X.flows.getD (eV X e.slot) Fl.zero).serving=true
    ·rw [if_pos hs];exact .refl X
    ·rw [if_neg hs];by_cases hg:e.good=true
     ·rw [if_pos hg];have hfm:=h.at_ hi;obtain ⟨q,q1,q2,q3,q4,q5,q6,q7,q8,q9⟩:=h.num hfm;have hs':=pK h hi;have hN:=hs'.noted (b:=(X.flows.getD (eV X e.slot) Fl.zero).backend.toNat) (by omega) false
      have g1:Goes X (bO (gZ X (eV X e.slot)) (X.flows.getD (eV X e.slot) Fl.zero).backend.toNat false):=by
       have:=uP hi;exact ⟨this.now,this.fl,this.lv⟩
      exact g1.trans (sv hN _)
     ·rw [if_neg hg];exact (sC h hf [] 3).goes
theorem BP {L:List Lf} {R:List Rq} {r:Rq} {now drain:Int} {L':List Lf} {R':List Rq} {ans:Int} {nw:Bool} (hd:1≤drain) (hg:ov L R r now drain L' R' ans nw):∀ x∈L',x.state=3→x∈L∨now<x.until_:=by
 intro x hx h3;rcases hg with ⟨q,_,_,rfl,_⟩|⟨hn,⟨_,rfl,_⟩|⟨hl,_,⟨hk,hj,_⟩|⟨hk,hr,_⟩⟩⟩
 ·exact Or.inl hx
 ·exact Or.inl hx
 ·rcases hj with ⟨_,rfl,_⟩|⟨_,_,rfl,_⟩|⟨_,⟨i,_,_,_,rfl⟩,_⟩|⟨_,_,rfl,_⟩
  ·exact Or.inl hx
  ·exact Or.inl hx
  ·rcases List.mem_or_eq_of_mem_set hx with hx|rfl
   ·exact Or.inl hx
   ·exact absurd h3 (by simp [jm])
  ·rcases (kq).1 hx with rfl|hx
   ·exact absurd h3 (by simp [jm])
   ·exact Or.inl hx
 ·rcases hr with ⟨_,rfl,_⟩|⟨_,rfl,_⟩|⟨_,rfl,_⟩|⟨i,_,_,_,rfl,_⟩
  ·exact Or.inl hx
  ·exact Or.inl hx
  ·exact Or.inl hx
  ·rcases List.mem_or_eq_of_mem_set hx with hx|rfl
   ·exact Or.inl hx
   ·exact Or.inr (by simp only [iG];omega)
theorem wV {X:Wd} (h:GwMay X) {e:Ev} {L':List Lf} {R':List Rq} {ans:Int} {nw:Bool} (hg:ov X.lives X.reqs ⟨e.request,fy e.kind,e.backend,e.weight,0⟩ X.now X.cf.drain L' R' ans nw):Goes X (jb X e L' R' ans nw).1:=by
 have hd:=h.cf.1.1;have hl:=BP (by omega) hg;have g1:∀ rg,Goes X { X with lives:=L',reqs:=R',ring:=rg }:=fun rg=>⟨rfl,fun f hf=>Or.inl ⟨f,hf,rfl⟩,hl⟩;unfold jb;simp only;by_cases h1:nw=false∨ans≠0∨e.kind≠6
 ·rw [if_pos h1];exact g1 X.ring
 ·rw [if_neg h1];by_cases h2:gp X.lives e.backend=1
  ·rw [if_pos h2];exact g1 X.ring
  ·rw [if_neg h2];exact (g1 (bN (dK L'))).trans (uM _ _)
theorem FR {X:Wd} (h:WdMay X) {key:Nat} (hk:key<4294967296):WdMay (ep X key).1:=h.goes (D3 h.gw hk) (sd h.gw key)
theorem Gs {X:Wd} (h:WdMay X) (e:Ev):WdMay (ez X e).1:=h.goes (DZ h.gw e) (sy h.gw e)
theorem ask_wd {X:Wd} (h:WdMay X) {e:Ev} (he:ux e) {L':List Lf} {R':List Rq} {ans:Int} {nw:Bool} (hg:ov X.lives X.reqs ⟨e.request,fy e.kind,e.backend,e.weight,0⟩ X.now X.cf.drain L' R' ans nw):WdMay (jb X e L' R' ans nw).1:=h.goes (ug h.gw he hg).2.2 (wV h.gw hg)
def Hx (L:List Lf) (r:Rq):List Lf×Int:=
 if ¬ ((0≤r.backend∧r.backend≤11)∧(1≤r.weight∧r.weight≤8)) then (L,2)
 else if aN (cq r.backend) L<0 then (ea L (nk L r.backend) (jm r),0)
 else if (L.getD (aN (cq r.backend) L).toNat Lf.zero).state≠4 then (L,7)
 else (L.set (aN (cq r.backend) L).toNat (jm r),0)
theorem Gi (L:List Lf) (r:Rq):xq L r (Hx L r).1 (Hx L r).2:=by
 unfold Hx;by_cases h:(0≤r.backend∧r.backend≤11)∧(1≤r.weight∧r.weight≤8)
 ·rw [if_neg (not_not_intro h)];rcases b8 (cq r.backend) L Lf.zero with ⟨e,_⟩|⟨i,hi,e,_⟩
  ·rw [if_pos (by omega)];exact Or.inr (Or.inr (Or.inr ⟨h,e,rfl,rfl⟩))
  ·rw [if_neg (by omega),e,Iu];by_cases h4:(L.getD i Lf.zero).state≠4
   ·rw [if_pos h4];exact Or.inr (Or.inl ⟨h,⟨i,hi,e,h4⟩,rfl,rfl⟩)
   ·rw [if_neg h4];exact Or.inr (Or.inr (Or.inl ⟨h,⟨i,hi,e,Decidable.not_not.1 h4,rfl⟩,rfl⟩))
 ·rw [if_pos h];exact Or.inl ⟨h,rfl,rfl⟩
def Hr (L:List Lf) (r:Rq) (now drain:Int):List Lf×Int:=
 if aN (cq r.backend) L<0 then (L,8)
 else if (L.getD (aN (cq r.backend) L).toNat Lf.zero).state=4 then (L,8)
 else if (L.getD (aN (cq r.backend) L).toNat Lf.zero).state=3 then (L,12)
 else (L.set (aN (cq r.backend) L).toNat (iG (L.getD (aN (cq r.backend) L).toNat Lf.zero) r now drain),0)
theorem FB (L:List Lf) (r:Rq) (now drain:Int):xj L r now drain (Hr L r now drain).1 (Hr L r now drain).2:=by
 unfold Hr;rcases b8 (cq r.backend) L Lf.zero with ⟨e,_⟩|⟨i,hi,e,_⟩
 ·rw [if_pos (by omega)];exact Or.inl ⟨e,rfl,rfl⟩
 ·rw [if_neg (by omega),e,Iu];by_cases h4:(L.getD i Lf.zero).state=4
  ·rw [if_pos h4];exact Or.inr (Or.inl ⟨⟨i,hi,e,h4⟩,rfl,rfl⟩)
  ·rw [if_neg h4];by_cases h3:(L.getD i Lf.zero).state=3
   ·rw [if_pos h3];exact Or.inr (Or.inr (Or.inl ⟨⟨i,hi,e,h3⟩,rfl,rfl⟩))
   ·rw [if_neg h3];exact Or.inr (Or.inr (Or.inr ⟨i,hi,e,⟨h4,h3⟩,rfl,rfl⟩))
structure AkF where
 L:List Lf
 R:List Rq
 ans:Int
 nw:Bool
def yI (L:List Lf) (R:List Rq) (r:Rq) (now drain:Int):AkF:=
 if ¬ aN (jW r.id) R<0 then ⟨L,R,(R.getD (aN (jW r.id) R).toNat Rq.zero).answer,false⟩
 else if R.length=100 then ⟨L,R,9,false⟩
 else if r.kind=1 then ⟨(Hx L r).1,R++[⟨r.id,1,r.backend,r.weight,(Hx L r).2⟩],(Hx L r).2,true⟩
 else ⟨(Hr L ⟨r.id,2,r.backend,0,r.answer⟩ now drain).1,R++[⟨r.id,2,r.backend,0,(Hr L ⟨r.id,2,r.backend,0,r.answer⟩ now drain).2⟩],(Hr L ⟨r.id,2,r.backend,0,r.answer⟩ now drain).2,true⟩
theorem GQ (L:List Lf) (R:List Rq) (r:Rq) (now drain:Int) (hk:r.kind=1∨r.kind=2):ov L R r now drain (yI L R r now drain).L (yI L R r now drain).R (yI L R r now drain).ans (yI L R r now drain).nw:=by
 unfold yI;rcases b8 (jW r.id) R Rq.zero with ⟨e,_⟩|⟨i,hi,e,_⟩
 ·rw [if_neg (by omega)];by_cases hl:R.length=100
  ·rw [if_pos hl];exact Or.inr ⟨e,Or.inl ⟨hl,rfl,rfl,rfl,rfl⟩⟩
  ·rw [if_neg hl];by_cases h1:r.kind=1
   ·rw [if_pos h1];exact Or.inr ⟨e,Or.inr ⟨hl,rfl,Or.inl ⟨h1,Gi L r,rfl⟩⟩⟩
   ·rw [if_neg h1];exact Or.inr ⟨e,Or.inr ⟨hl,rfl,Or.inr ⟨by omega,FB L _ now drain,rfl⟩⟩⟩
 ·rw [if_pos (by omega),e,Iu];exact Or.inl ⟨i,hi,e,rfl,rfl,rfl,rfl⟩
def reqE (e:Ev):Rq:=⟨e.request,fy e.kind,e.backend,e.weight,0⟩
def nF (X:Wd) (e:Ev):AkF:=yI X.lives X.reqs (reqE e) X.now X.cf.drain
def oL (X:Wd) (e:Ev):Wd×List Out:=jb X e (nF X e).L (nF X e).R (nF X e).ans (nF X e).nw
theorem pd (X:Wd) {e:Ev} (_:e.kind=5∨e.kind=6):ov X.lives X.reqs ⟨e.request,fy e.kind,e.backend,e.weight,0⟩ X.now X.cf.drain (nF X e).L (nF X e).R (nF X e).ans (nF X e).nw:=
 GQ X.lives X.reqs (reqE e) X.now X.cf.drain (by unfold reqE fy;simp only;by_cases h:e.kind=6<;>simp [h])
def ib (X:Wd) (e:Ev):Wd×List Out:=
 if e.kind=1 then ep X e.key.toNat else if e.kind=5∨e.kind=6 then oL X e else if e.kind=7 then gX X else ez X e
structure EvMay (X:Wd) (e:Ev):Prop where
 k0:0≤e.key
 k1:e.key≤4294967295
 r0:0≤e.request
 r1:e.request≤1048576
 b0:0≤e.backend
 b1:e.backend≤11
 tk:e.kind=7→X.now<1099511626776
theorem EvMay.ask {X:Wd} {e:Ev} (h:EvMay X e) (hk:e.kind=5∨e.kind=6):ux e:=⟨hk,h.r0,h.r1,h.b0,h.b1⟩
theorem zM {X:Wd} (h:WdMay X) {e:Ev} (he:EvMay X e):WdMay (ib X e).1:=by
 unfold ib;by_cases h1:e.kind=1
 ·rw [if_pos h1];exact FR h (by have:=he.k0;have:=he.k1;omega)
 ·rw [if_neg h1];by_cases h2:e.kind=5∨e.kind=6
  ·rw [if_pos h2];exact ask_wd h (he.ask h2) (pd X h2)
  ·rw [if_neg h2];by_cases h3:e.kind=7
   ·rw [if_pos h3];exact (zd h (he.tk h3)).1
   ·rw [if_neg h3];exact Gs h e
theorem n9 (X:Wd) (b:Int):(bP X b).1.cf=X.cf:=by
 obtain ⟨L,e,_⟩:=iy X b;rw [e]
theorem pG {X:Wd} {b:Int} {o:Out} (h:o∈(bP X b).2):o.kind=9:=by
 unfold bP at h
 cases hl:cW X.lives b with
 | none=>rw [hl] at h;simp at h
 | some x=>
  rw [hl] at h;simp only at h;by_cases hc:x.state=3∧iO X.tab b X.tab.length=[]
  ·rw [if_pos hc] at h;simp at h;rw [h]
  ·rw [if_neg hc] at h;simp at h
theorem qI (X:Wd) (i:Nat) (k y:Int):(g9 X i k y).1.cf=X.cf:=by unfold g9;rw [n9];rfl
theorem p9 {X:Wd} {i:Nat} {k y:Int} {o:Out} (h:o∈(g9 X i k y).2):o.kind=k∨o.kind=9:=by
 unfold g9 at h;exact Q165
theorem zK (X:Wd) (i:Nat) (why:Int):(eu X i why).1.cf=X.cf:=by
 unfold eu;simp only
 split
 ·rw [qI]
  rfl
 ·split
  ·rw [qI]
   rfl
  ·split
   ·rfl
   ·rw [n9]
    rfl
theorem wB {X:Wd} {i:Nat} {why:Int} {o:Out} (h:o∈(eu X i why).2):o.kind=6∨o.kind=5∨o.kind=9:=by
 unfold eu at h;simp only at h
 split at h
 ·rcases p9 h with h|h
  ·exact Or.inl h
  ·exact Or.inr (Or.inr h)
 ·split at h
  ·rcases p9 h with h|h
   ·exact Or.inl h
   ·exact Or.inr (Or.inr h)
  ·split at h
   ·simp at h;rw [h];exact Or.inr (Or.inl rfl)
   ·rcases List.mem_cons.1 h with rfl|h
    ·exact Or.inr (Or.inl rfl)
    ·exact Or.inr (Or.inr (pG h))
theorem due_cf (P:Wd×List Out) (s:Int):(ja P s).1.cf=P.1.cf:=by
 unfold ja
 split
 ·exact qI _ _ 6 1
 ·exact zK _ _ _
theorem GC {P:Wd×List Out} {s:Int} {o:Out} (h:o∈(ja P s).2):o∈P.2∨o.kind=6∨o.kind=5∨o.kind=9:=by
 unfold ja at h
 split at h
 ·exact Q124
 ·rcases List.mem_append.1 h with h|h
  ·exact Or.inl h
  ·exact Or.inr (wB h)
theorem cut_cf (P:Wd×List Out) (s:Int):(lX P s).1.cf=P.1.cf:=qI _ _ 6 2
theorem GG {P:Wd×List Out} {s:Int} {o:Out} (h:o∈(lX P s).2):o∈P.2∨o.kind=6∨o.kind=5∨o.kind=9:=by
 unfold lX at h;exact Q124
theorem kS {α β γ:Type} {f:β→α→β} {g:β→γ} (h:∀ b a,g (f b a)=g b):∀ (L:List α) (b:β),g (L.foldl f b)=g b
 | [],_=>rfl
 | a :: L,b=>by rw [List.foldl_cons,kS h L,h]
theorem mE {α:Type} {f:Wd×List Out→α→Wd×List Out} {p:Out→Prop} (h:∀ P a o,o∈(f P a).2→o∈P.2∨p o):∀ (L:List α) (P:Wd×List Out) (o:Out),o∈(L.foldl f P).2→o∈P.2∨p o
 | [],_,_,ho=>Or.inl ho
 | a :: L,P,o,ho=>by
  rw [List.foldl_cons] at ho;rcases mE h L (f P a) o ho with g|g
  ·exact h P a o g
  ·exact Or.inr g
theorem Ea (P:Wd×List Out) (x:Lf):(eO P x).1.cf=P.1.cf:=by
 unfold eO
 split
 ·rfl
 ·exact kS (g:=fun P:Wd×List Out=>P.1.cf) cut_cf _ _
theorem BA {P:Wd×List Out} {x:Lf} {o:Out} (h:o∈(eO P x).2):o∈P.2∨o.kind=6∨o.kind=5∨o.kind=9:=by
 unfold eO at h
 split at h
 ·exact Or.inl h
 ·exact mE (p:=fun o=>o.kind=6∨o.kind=5∨o.kind=9) (fun P a o h=>GG h) _ _ _ h
theorem Cl (X:Wd):(fS X).cf=X.cf:=by
 have hf:=iv X;unfold fS;simp only;rw [hf]
 rfl
theorem Fs (X:Wd):(gX X).1.cf=X.cf:=by
 unfold gX ca;rw [kS (g:=fun P:Wd×List Out=>P.1.cf) Ea,kS (g:=fun P:Wd×List Out=>P.1.cf) due_cf];exact Cl X
theorem uF {X:Wd} {o:Out} (h:o∈(gX X).2):o.kind=6∨o.kind=5∨o.kind=9:=by
 unfold gX at h;rcases mE (p:=fun o=>o.kind=6∨o.kind=5∨o.kind=9) (fun P a o h=>BA h) _ _ _ h with h|h
 ·unfold ca at h;rcases mE (p:=fun o=>o.kind=6∨o.kind=5∨o.kind=9) (fun P a o h=>GC h) _ _ _ h with h|h
  ·simp at h
  ·exact h
 ·exact h
theorem t8 (X:Wd) (key:Nat):(ep X key).1.cf=X.cf:=by
 unfold ep
 split
 ·rfl
 ·split<;>rfl
theorem Gu (X:Wd) (e:Ev):(ez X e).1.cf=X.cf:=by
 unfold ez
 split
 ·rfl
 ·split
  ·exact qI _ _ 7 0
  ·split
   ·simp only
    split<;>rfl
   ·split
    ·rfl
    ·split
     ·rfl
     ·exact zK _ _ _
theorem vX {X:Wd} {e:Ev} {o:Out} (h:o∈(ez X e).2):o.kind≠1:=by
 unfold ez at h
 split at h
 ·simp at h;rw [h];simp
 ·split at h
  ·rcases p9 h with h|h<;>rw [h]<;>decide
  ·split at h
   ·simp at h;rw [h];simp
   ·split at h
    ·simp at h;rw [h];simp
    ·split at h
     ·simp at h;rw [h];simp
     ·rcases wB h with h|h|h<;>rw [h]<;>decide
theorem ask_cf (X:Wd) (e:Ev):(oL X e).1.cf=X.cf:=by
 unfold oL jb;simp only
 split
 ·rfl
 ·split
  ·rfl
  ·rw [n9]
theorem zR {X:Wd} {e:Ev} {o:Out} (h:o∈(oL X e).2):o.kind=8∨o.kind=9:=by
 unfold oL jb at h;simp only at h
 split at h
 ·simp at h;rw [h];exact Or.inl rfl
 ·split at h
  ·simp at h;rcases h with h|h<;>rw [h]
   ·exact Or.inl rfl
   ·exact Or.inr rfl
  ·exact Q165
theorem Eb (X:Wd) (e:Ev):(ib X e).1.cf=X.cf:=by
 unfold ib
 split
 ·exact t8 _ _
 ·split
  ·exact ask_cf _ _
  ·split
   ·exact Fs _
   ·exact Gu _ _
def jU (h:Hd):Prop:=0≤h.slot∧h.slot≤39∧0≤h.gen∧h.gen≤1048576
def j9 (k:Int):Ev:=⟨1,k,0,0,false,0,0,0⟩
def gU (k:Int) (h:Hd) (g:Bool):Ev:=⟨k,0,h.slot,h.gen,g,0,0,0⟩
def ff (r b wt:Int):Ev:=⟨5,0,0,0,false,r,b,wt⟩
def ls (r b:Int):Ev:=⟨6,0,0,0,false,r,b,0⟩
def gT:Ev:=⟨7,0,0,0,false,0,0,0⟩
theorem FZ {k:Int} (h0:0≤k) (h1:k≤4294967295):jL (j9 k) 0:=by
 refine Or.inr (Or.inr (Or.inr ⟨by simp [j9],?_,?_,rfl⟩))
 ·simp [nM,eK,Aa,j9];omega
 ·simp [fT,j9,Ev.zero]
theorem ok_fl {k:Int} (hk:k=2∨k=3) {h:Hd} (hh:jU h):jL (gU k h false) 0:=by
 obtain ⟨h0,h1,h2,h3⟩:=hh;refine Or.inr (Or.inr (Or.inr ⟨by simp only [gU];omega,?_,?_,rfl⟩))
 ·rcases hk with rfl|rfl<;>simp [nM,eK,Aa,gU]<;>omega
 ·rcases hk with rfl|rfl<;>simp [fT,gU,Ev.zero]
theorem ok_ans {h:Hd} (hh:jU h) (g:Bool):jL (gU 4 h g) 0:=by
 obtain ⟨h0,h1,h2,h3⟩:=hh;refine Or.inr (Or.inr (Or.inr ⟨by simp only [gU];omega,?_,?_,rfl⟩))
 ·simp [nM,eK,Aa,gU];omega
 ·simp [fT,gU,Ev.zero]
theorem Ga {r b wt:Int} (h0:0≤r) (h1:r≤1048576) (h2:0≤b) (h3:b≤11) (h4:1≤wt) (h5:wt≤8):jL (ff r b wt) 0:=by
 refine Or.inr (Or.inr (Or.inr ⟨by simp [ff],?_,?_,rfl⟩))
 ·simp [nM,eK,Aa,ff];omega
 ·simp [fT,ff,Ev.zero]
theorem ok_ret {r b:Int} (h0:0≤r) (h1:r≤1048576) (h2:0≤b) (h3:b≤11):jL (ls r b) 0:=by
 refine Or.inr (Or.inr (Or.inr ⟨by simp [ls],?_,?_,rfl⟩))
 ·simp [nM,eK,Aa,ls];omega
 ·simp [fT,ls,Ev.zero]
theorem FY:jL gT 0:=by
 refine Or.inr (Or.inr (Or.inr ⟨by decide,?_,?_,rfl⟩))
 ·simp [nM,eK,Aa,gT]
 ·simp [fT,gT,Ev.zero]
structure EvGood (e:Ev):Prop where
 ok:jL e 0
 k0:0≤e.key
 k1:e.key≤4294967295
 r0:0≤e.request
 r1:e.request≤1048576
 b0:0≤e.backend
 b1:e.backend≤11
theorem EvGood.may {e:Ev} (h:EvGood e) {X:Wd} (hn:X.now<1099511626776):EvMay X e:=⟨h.k0,h.k1,h.r0,h.r1,h.b0,h.b1,fun _=>hn⟩
theorem Bs {k:Int} (h0:0≤k) (h1:k≤4294967295):EvGood (j9 k):=⟨FZ h0 h1,h0,h1,Int.le_refl 0,(by decide:(0:Int)≤1048576),Int.le_refl 0,(by decide:(0:Int)≤11)⟩
theorem zH {k:Int} (hk:k=2∨k=3) {h:Hd} (hh:jU h):EvGood (gU k h false):=⟨ok_fl hk hh,Int.le_refl 0,(by decide:(0:Int)≤4294967295),Int.le_refl 0,(by decide:(0:Int)≤1048576),Int.le_refl 0,(by decide:(0:Int)≤11)⟩
theorem DV {h:Hd} (hh:jU h) (g:Bool):EvGood (gU 4 h g):=⟨ok_ans hh g,Int.le_refl 0,(by decide:(0:Int)≤4294967295),Int.le_refl 0,(by decide:(0:Int)≤1048576),Int.le_refl 0,(by decide:(0:Int)≤11)⟩
theorem sw {r b wt:Int} (h0:0≤r) (h1:r≤1048576) (h2:0≤b) (h3:b≤11) (h4:1≤wt) (h5:wt≤8):EvGood (ff r b wt):=⟨Ga h0 h1 h2 h3 h4 h5,Int.le_refl 0,(by decide:(0:Int)≤4294967295),h0,h1,h2,h3⟩
theorem DU {r b:Int} (h0:0≤r) (h1:r≤1048576) (h2:0≤b) (h3:b≤11):EvGood (ls r b):=⟨ok_ret h0 h1 h2 h3,Int.le_refl 0,(by decide:(0:Int)≤4294967295),h0,h1,h2,h3⟩
theorem kQ:EvGood gT:=⟨FY,by decide,by decide,by decide,by decide,by decide,by decide⟩
def pk (n m:Int):Int:=(if n<0 then -(n+1) else n) % m
theorem cP (n:Int) {m:Int} (h:0<m):0≤pk n m∧pk n m<m:=by
 unfold pk;exact ⟨Int.emod_nonneg _ (by omega),Int.emod_lt_of_pos _ h⟩
structure Dd where
 kind:Int
 a:Int
 b:Int
 c:Int
def EY (G:List Hd) (d:Dd):Hd:=if 0<G.length∧0<pk d.c 9 then G.getD (G.length - 1 - (pk d.a (min G.length 8:Nat)).toNat) ⟨0,0⟩ else ⟨pk d.a 8,pk d.b 3⟩
def I0 (G:List Hd) (d:Dd):Ev:=
 if pk d.kind 20<6 then j9 (pk d.a 100)
 else if pk d.kind 20=6 then gU 2 (EY G d) false
 else if pk d.kind 20=7 then gU 3 (EY G d) false
 else if pk d.kind 20<12 then gU 4 (EY G d) (pk d.b 2 == 0)
 else if pk d.kind 20<14 then ff (pk d.a 30) (pk d.b 5) (1+pk d.c 8)
 else if pk d.kind 20=14 then ls (pk d.a 30) (pk d.b 5)
 else gT
theorem Gq {G:List Hd} (h:∀ x∈G,jU x) (d:Dd):jU (EY G d):=by
 unfold EY;by_cases hc:0<G.length∧0<pk d.c 9
 ·rw [if_pos hc];have hi:G.length - 1 - (pk d.a (min G.length 8:Nat)).toNat<G.length:=by omega
  rw [aK hi];exact h _ (Iw hi)
 ·rw [if_neg hc];have h1:=cP d.a (m:=8) (by decide);have h2:=cP d.b (m:=3) (by decide);unfold jU;simp only;omega
theorem qG {G:List Hd} (h:∀ x∈G,jU x) (d:Dd):EvGood (I0 G d):=by
 have hh:=Gq h d;have a1:=cP d.a (m:=100) (by decide);have a2:=cP d.a (m:=30) (by decide);have b1:=cP d.b (m:=5) (by decide);have c1:=cP d.c (m:=8) (by decide);unfold I0
 split
 ·exact Bs a1.1 (by omega)
 ·split
  ·exact zH (Or.inl rfl) hh
  ·split
   ·exact zH (Or.inr rfl) hh
   ·split
    ·exact DV hh _
    ·split
     ·exact sw a2.1 (by omega) b1.1 (by omega) (by omega) (by omega)
     ·split
      ·exact DU a2.1 (by omega) b1.1 (by omega)
      ·exact kQ
structure Stp where
 ev:Ev
 be:Wd
 af:Wd
 out:List Out
structure kY where
 steps:List Stp
 last:Wd
 given:List Hd
def nG (O:List Out):List Hd:=(O.filter fun o=>o.kind == 1).map fun o=>⟨o.slot,o.gen⟩
def sE (p:kY) (e:Ev):kY:=⟨p.steps++[⟨e,p.last,(ib p.last e).1,(ib p.last e).2⟩],(ib p.last e).1,p.given++nG (ib p.last e).2⟩
def wJ (p:kY) (d:Dd):kY:=sE p (I0 p.given d)
def begP (X:Wd):kY:=sE (sE (sE (sE ⟨[],X,[]⟩ (ff 1000 0 2)) (ff 1001 1 3)) (ff 1002 2 4)) gT
def fW (X:Wd) (L:List Dd) (most:Nat):kY:=(L.take most).foldl wJ (begP X)
structure zU (c:Cf) (p:kY):Prop where
 wd:WdMay p.last
 cf:p.last.cf=c
 gi:∀ h∈p.given,jU h
 st:∀ s∈p.steps,WdMay s.be∧WdMay s.af∧EvGood s.ev∧EvMay s.be s.ev∧s.af=(ib s.be s.ev).1∧s.out=(ib s.be s.ev).2∧s.be.cf=c∧s.af.cf=c
 nw:p.last.now≤p.steps.length
theorem EC {X:Wd} (h:GwMay X) {key:Nat}:∀ x∈nG (ep X key).2,jU x:=by
 intro x hx;unfold nG ep at hx
 split at hx
 ·simp at hx
 ·split at hx
  ·simp at hx
  ·rename_i h1 _
   rcases b8 dH X.tab Sl.zero with ⟨e,_⟩|⟨i,hi,e,_⟩
   ·omega
   ·simp [e] at hx;subst hx;have hs:=na h.tb hi;have h40:=h.tb.2.1
    have hg:0≤(X.tab.getD i Sl.zero).gen∧(X.tab.getD i Sl.zero).gen≤1048576:=by
     unfold ds at hs
     split at hs<;>omega
    unfold jU;simp only [List.getD] at hg;simp only;omega
theorem kV {O:List Out} (h:∀ o∈O,o.kind≠1):nG O=[]:=by
 unfold nG;rw [List.filter_eq_nil_iff.2 (fun o ho=>by simpa using h o ho)]
 rfl
theorem acc_do {X:Wd} (h:GwMay X) (e:Ev):∀ x∈nG (ib X e).2,jU x:=by
 intro x hx;unfold ib at hx
 split at hx
 ·exact EC h x hx
 ·split at hx
  ·rw [kV (fun o ho=>by rcases zR ho with g|g<;>rw [g]<;>decide)] at hx;simp at hx
  ·split at hx
   ·rw [kV (fun o ho=>by rcases uF ho with g|g|g<;>rw [g]<;>decide)] at hx;simp at hx
   ·rw [kV (fun o ho=>vX ho)] at hx;simp at hx
theorem yz {X:Wd} (h:WdMay X) {e:Ev} (he:EvMay X e):(ib X e).1.now=if e.kind=7 then X.now+1 else X.now:=by
 unfold ib
 split
 ·rename_i h1
  rw [if_neg (by omega)];exact (sd h.gw _).now
 ·split
  ·rename_i h1
   rw [if_neg (by omega)];exact (wV h.gw (pd X h1)).now
  ·split
   ·rename_i h1
    exact (zd h (he.tk h1)).2
   ·rename_i h1
    exact (sy h.gw e).now
theorem doP_ok {c:Cf} {p:kY} (h:zU c p) {e:Ev} (he:EvGood e) (hl:p.steps.length<1000000):zU c (sE p e):=by
 have hm:EvMay p.last e:=he.may (by have:=h.nw;omega);have hw:=zM h.wd hm;have hc:=Eb p.last e;refine ⟨hw,hc.trans h.cf,fun x hx=>?_,fun s hs=>?_,?_⟩
 ·rcases List.mem_append.1 hx with hx|hx
  ·exact h.gi x hx
  ·exact acc_do h.wd.gw e x hx
 ·rcases List.mem_append.1 hs with hs|hs
  ·exact h.st s hs
  ·simp only [List.mem_singleton] at hs;subst hs;exact ⟨h.wd,hw,he,hm,rfl,rfl,h.cf,hc.trans h.cf⟩
 ·have h1:=yz h.wd hm;have h2:=h.nw;show (ib p.last e).1.now≤((p.steps++[_]).length:Nat)
  rw [h1,It];simp only [List.length_singleton]
  split<;>omega
def nc (L:List Lf) (k:Nat):List Sp:=bN (dK (L.take k))
theorem Db:dK []=List.replicate 12 0:=by decide
theorem Cz (L:List Lf):nc L 0=[]:=by
 unfold nc;rw [List.take_zero,Db];exact List.Perm.eq_nil ((eZ _).trans (List.Perm.of_eq (by decide)))
theorem Df (A B:List Lf) (b:Int):cW (A++B) b=(cW A b).or (cW B b):=List.find?_append
theorem sq {L:List Lf} (hs:L.Pairwise fun a b=>a.backend<b.backend) {k:Nat} (hk:k<L.length):cW (L.take k) (L.getD k Lf.zero).backend=none:=by
 refine List.find?_eq_none.2 fun y hy=>?_;obtain ⟨j,hj,rfl⟩:=List.mem_iff_getElem.1 hy;rw [Iz] at hj;have:=List.pairwise_iff_getElem.1 hs j k (by omega) hk (by omega);rw [aK hk,List.getElem_take];simp [cq];omega
def wtA (x:Lf):Nat:=if x.state=2 then x.weight.toNat else 0
theorem qr {L:List Lf} (hs:L.Pairwise fun a b=>a.backend<b.backend) {k:Nat} (hk:k<L.length) (h0:0≤(L.getD k Lf.zero).backend) (h1:(L.getD k Lf.zero).backend≤11):(dK (L.take k)).getD (L.getD k Lf.zero).backend.toNat 0=0:=by
 rw [fc _ (by omega),Int.toNat_of_nonneg h0,sq hs hk]
theorem sm {L:List Lf} (hs:L.Pairwise fun a b=>a.backend<b.backend) {k:Nat} (hk:k<L.length) (h0:0≤(L.getD k Lf.zero).backend) (h1:(L.getD k Lf.zero).backend≤11):dK (L.take (k+1))=(dK (L.take k)).set (L.getD k Lf.zero).backend.toNat (wtA (L.getD k Lf.zero)):=by
 have hn:=sq hs hk;have e:L.take (k+1)=L.take k++[L.getD k Lf.zero]:=by rw [Ir hk,aK hk]
 rw [e];generalize L.getD k Lf.zero=x at h0 h1 hn;refine List.ext_getElem (by simp [cA]) fun b hb1 hb2=>?_
 have hb:b<12:=by rw [cA] at hb1;exact hb1
 rw [← aK hb1 0,← aK hb2 0,fc _ hb,cJ (by rw [cA];omega),fc _ hb,Df,ft];by_cases hx:x.backend=(b:Int)
 ·rw [if_pos hx,if_pos (by omega),← hx,hn];simp only [Option.none_or,wtA]
 ·rw [if_neg hx,if_neg (by omega)];simp [cW]
theorem Dc {L:List Lf} (h:∀ x∈L,x.weight≤8) (b:Nat):(dK L).getD b 0≤8:=by
 by_cases hb:b<12
 ·rw [fc L hb]
  cases hl:cW L (b:Nat) with
  | none=>simp
  | some x=>
   have:=h x (dj hl).1;simp only
   split<;>omega
 ·exact Q133
theorem Cy {L:List Lf} {R:List Rq} (h:bF L R) (k:Nat):RgMay (nc L k):=pN (cA _) (Dc fun _ hx=>(dz h (List.mem_of_mem_take hx)).2.2.2.1)
theorem rl_add {L:List Lf} {R:List Rq} (h:bF L R) {k:Nat} (hk:k<L.length) (hs:(L.getD k Lf.zero).state=2):yS (nc L k) (L.getD k Lf.zero).backend (L.getD k Lf.zero).weight (nc L (k+1)) 0:=by
 have hm:L.getD k Lf.zero∈L:=by rw [aK hk];exact Iw hk
 have hb:=dz h hm;have h0:=hb.1;have h1:=hb.2.1;have h2:=hb.2.2.1;have h3:=hb.2.2.2.1;refine Or.inr (Or.inr ⟨(L.getD k Lf.zero).backend.toNat,(L.getD k Lf.zero).weight.toNat,Cy h k,by omega,by omega,by omega,by omega,by omega,Or.inr ⟨?_,?_,rfl⟩⟩)
 ·unfold nc;rw [iz (cA _)];exact qr (bZ h) hk h0 h1
 ·unfold nc;rw [iz (cA _),sm (bZ h) hk h0 h1];unfold wtA;rw [if_pos hs]
theorem FG {L:List Lf} {R:List Rq} (h:bF L R) {k:Nat} (hk:k<L.length) (hs:(L.getD k Lf.zero).state≠2):nc L (k+1)=nc L k:=by
 have hm:L.getD k Lf.zero∈L:=by rw [aK hk];exact Iw hk
 have hb:=dz h hm;have h0:=hb.1;have h1:=hb.2.1;unfold nc;rw [sm (bZ h) hk h0 h1];have hz:=qr (bZ h) hk h0 h1;have e:wtA (L.getD k Lf.zero)=0:=if_neg hs;rw [e]
 congr 1
 exact rS (d:=0) (by rw [cA];omega) hz
theorem rl_all {X:Wd} (h:GwMay X):nc X.lives X.lives.length=X.ring:=by unfold nc;rw [List.take_length];exact h.rg.symm
def uO (T:List Sl) (b:Int):List Int:=(iO T b T.length).map Hd.slot
theorem GH {X:Wd} (h:GwMay X) {x:Lf} (hx:x∈X.lives) (h3:x.state=3):(gC X.tab X.tab.length).getD x.backend.toNat 0≠0:=by
 have hb:=dz h.bk hx;have h0:=hb.1;have h1:=hb.2.1;obtain ⟨f,hf,hfb⟩:=h.dr x hx h3
 have hm:f.slot∈uO X.tab x.backend:=by
  have h2:=h.fl f hf;have s0:=h2.s0;have s1:=h2.s1;exact II.2 ⟨⟨f.slot.toNat,(X.tab.getD f.slot.toNat Sl.zero).gen⟩,iU.2 ⟨f.slot.toNat,by omega,by rw [h2.sl],by rw [h2.sl];exact hfb,rfl⟩,by simp only;omega⟩
 have hl:(gC X.tab X.tab.length).getD x.backend.toNat 0=((iO X.tab x.backend X.tab.length).length:Int):=by
  exact Q132
 rw [hl];intro e;have e':iO X.tab x.backend X.tab.length=[]:=List.length_eq_zero_iff.1 (by omega);unfold uO at hm;rw [e'] at hm;simp at hm
def di (c:Cf):Wd:=⟨c,0,fA c.flows.toNat,[],[],[],[],List.replicate 12 Ht.zero,c.bb*c.bd,0,List.replicate 25 []⟩
theorem Ah:bJ 0 []=List.replicate 25 []:=by
 refine List.ext_getElem (by rw [cR];simp) fun i h1 h2=>?_;rw [cR] at h1;rw [← aK (by rw [cR];exact h1) [],dP 0 [] h1,List.getElem_replicate];exact List.Perm.eq_nil (dg _)
theorem CB:bN (dK [])=[]:=by
 have:=Cz [];unfold nc at this;simpa using this
theorem beg_wd {c:Cf} (h:j4 c):WdMay (di c):=by
 have hf:1≤c.flows∧c.flows≤40:=⟨h.1.2.2.1,h.1.2.2.2.1⟩;have hz:∀ s∈fA c.flows.toNat,s=Sl.zero:=fun s hs=>List.eq_of_mem_replicate hs;have hl:(fA c.flows.toNat).length=c.flows.toNat:=List.length_replicate
 have hh:∀ i,i<12→(di c).health.getD i Ht.zero=Ht.zero:=fun i hi=>by
  show (List.replicate 12 Ht.zero).getD i Ht.zero=Ht.zero
  rw [aK (by simpa using hi),List.getElem_replicate]
 refine ⟨{ cf:=h,n0:=Int.le_refl 0,n1:=(by decide:(0:Int)≤1099511626776),tb:=?_,tl:=?_,bk:=?_,hl:=by simp [di],ht:=fun i hi=>?_,ho:=fun i hi=>?_,t0:=?_,t1:=Int.le_refl _,rg:=CB.symm,wn:=rfl,wl:=Ah.symm,so:=List.Pairwise.nil,fl:=fun f hf=>(by simp [di] at hf),us:=fun s hs hu=>?_,dr:=fun x hx=>(by simp [di] at hx),si:=fun x hx=>(by simp [di] at hx) },fun f hf=>(by simp [di] at hf),fun x hx=>(by simp [di] at hx)⟩
 ·refine ⟨by show 1≤(fA c.flows.toNat).length;rw [hl];omega,by show (fA c.flows.toNat).length≤40;rw [hl];omega,fun s hs=>?_⟩;rw [hz s hs];simp [ds,Sl.zero]
 ·show ((fA c.flows.toNat).length:Int)=c.flows
  rw [hl];omega
 ·exact ⟨by simp [di],by simp [di],fun i hi=>by simp [di] at hi,fun x hx=>by simp [di] at hx,by simp [di,gM]⟩
 ·rw [hh i hi];exact DO h.2.2 (Int.le_refl 0) (by decide:(0:Int)≤1099511627776) (zG (by have:=h.2.2.1;show 0≤c.ww;omega))
 ·rw [hh i hi];intro g;exact absurd g (by decide)
 ·show 0≤c.bb*c.bd
  have:=h.2.1;unfold gW at this;exact Int.mul_nonneg (by omega) (by omega)
 ·have:(di c).tab.getD s Sl.zero=Sl.zero:=by
   show (fA c.flows.toNat).getD s Sl.zero=Sl.zero
   rw [aK (show s<(fA c.flows.toNat).length from hs)];exact hz _ (Iw _)
  rw [this] at hu;exact absurd hu (by decide)
def Fm (T:List Sl) (k:Nat):Nat:=((T.take k).filter Sl.used).length
theorem Cg {T:List Sl} {k:Nat} (h:k<T.length):Fm T (k+1)=Fm T k+(if (T.getD k Sl.zero).used=true then 1 else 0):=by
 unfold Fm;rw [Ir h,List.filter_append,It,aK h]
 cases hu:T[k].used<;>simp [hu]
theorem usN_le (T:List Sl) (k:Nat):Fm T k≤T.length:=by
 unfold Fm;exact IG (List.length_filter_le _ _) (by rw [Iz];omega)
theorem yf {α:Type} (L:List α) (d:α):L=(List.range L.length).map fun i=>L.getD i d:=by
 refine List.ext_getElem (by simp) fun i h1 h2=>?_;rw [List.getElem_map,List.getElem_range,aK h1]
theorem pu {X:Wd} (h:GwMay X):(X.tab.filter Sl.used).length=X.flows.length:=by
 have e:(X.tab.filter Sl.used).length=((List.range X.tab.length).filter fun i=>(X.tab.getD i Sl.zero).used).length:=by
  conv=>lhs;rw [yf X.tab Sl.zero]
  rw [List.filter_map,Iq]
  rfl
 have hp:((List.range X.tab.length).filter fun i=>(X.tab.getD i Sl.zero).used).Perm (X.flows.map fun f=>f.slot.toNat):=by
  refine (List.perm_ext_iff_of_nodup (List.nodup_range.sublist List.filter_sublist) ?_).2 fun i=>?_
  ·exact Q118
  ·rw [List.mem_filter,List.mem_range,II];constructor
   ·rintro ⟨hi,hu⟩;obtain ⟨f,hf,hs⟩:=h.us i hi hu;exact ⟨f,hf,by rw [hs];simp⟩
   ·rintro ⟨f,hf,rfl⟩;have h1:=h.fl f hf;have h0:=h1.s0;have h2:=h1.s1;exact ⟨by omega,by rw [h1.sl]⟩
 rw [e,hp.length_eq,Iq]
theorem Fk {X:Wd} (h:GwMay X):Fm X.tab X.tab.length=X.flows.length:=by
 unfold Fm;rw [List.take_length];exact pu h
def EX (LL:List (List Tm)) (k:Nat):Nat:=(LL.take k).flatten.length
theorem De {LL:List (List Tm)} {k:Nat} (h:k<LL.length):EX LL (k+1)=EX LL k+(LL.getD k []).length:=by
 unfold EX;rw [Ir h,IC,It,aK h];simp
theorem tc {X:Wd} (h:WdMay X):X.lists.flatten.length=X.flows.length:=by
 rw [h.gw.whp.length_eq];unfold em;rw [Iq,List.filter_eq_self.2 fun f hf=>by simpa using h.du f hf]
theorem gL {X:Wd} (h:GwMay X):X.lists.length=25:=h.wh.2.2.1
theorem Gd {X:Wd} (h:WdMay X):EX X.lists 25=X.flows.length:=by
 unfold EX;rw [← gL h.gw,List.take_length];exact tc h
theorem lnN_le (LL:List (List Tm)) (k:Nat):EX LL k≤LL.flatten.length:=by
 unfold EX
 conv=>rhs;rw [← IE k LL,IC,It]
 omega
theorem tm_any {X:Wd} (h:WdMay X) {f:Fl} (hf:f∈X.flows):(List.range 25).any (fun i=>decide ((⟨f.due,f.slot⟩:Tm)∈X.lists.getD i []))=true:=by
 have hm:(⟨f.due,f.slot⟩:Tm)∈X.lists.flatten:=by
  rw [h.gw.whp.mem_iff];exact II.2 ⟨f,List.mem_filter.2 ⟨hf,by simpa using h.du f hf⟩,rfl⟩
 obtain ⟨l,hl,ht⟩:=List.mem_flatten.1 hm;obtain ⟨i,hi,rfl⟩:=km hl [];rw [List.any_eq_true];refine ⟨i,List.mem_range.2 (by have:=gL h.gw;omega),?_⟩;simpa using ht
def yF (F:List Fl) (k:Nat):Int:=if k=0 then -1 else (F.getD (k - 1) Fl.zero).slot
theorem Er (F:List Fl):yF F 0=-1:=rfl
theorem yE (F:List Fl) (k:Nat):yF F (k+1)=(F.getD k Fl.zero).slot:=by simp [yF]
theorem GN {X:Wd} (h:GwMay X) {k:Nat} (hk:k<X.flows.length):yF X.flows k<(X.flows.getD k Fl.zero).slot:=by
 cases k with
 | zero=>
  have:=(h.fl _ (h.at_ hk)).s0;rw [Er];omega
 | succ j=>
  rw [yE,aK (by omega),aK hk];exact List.pairwise_iff_getElem.1 h.so j (j+1) (by omega) hk (by omega)
theorem GO {X:Wd} (h:GwMay X) {k:Nat} (hk:k≤X.flows.length):-1≤yF X.flows k:=by
 cases k with
 | zero=>rw [Er];omega
 | succ j=>
  rw [yE];have:=(h.fl _ (h.at_ (show j<X.flows.length by omega))).s0;omega
theorem uX {p:Nat} {w:World} {X:Wd} {V:Vs} (h:GR p w X V) (hm:WdMay X) :
  Calls Tryz.prog 72 #[.pointer (some ⟨p,0,none⟩)] w fun e w'=>e=.returned (.bool true)∧Below w.heap.size w w':=by
 have HR:=Ib h
 have HX:=Ib hm
 have hp:=h.2.2.2.1
 have x17:=h.c 17 (v:=V.t) rfl
 have x18:=h.c 18 (v:=V.f) rfl
 have x25:=h.c 25 (v:=V.w) rfl
 have x8:=h.c 8 (v:=.int .i64 X.cf.retries) rfl
 obtain ⟨aT,cT,eT,_,_,_,pT⟩:=aJ Sl.zero h.1.ta.1
 obtain ⟨aF,cF,eF,_,_,_,pF⟩:=aJ Fl.zero h.2.1
 obtain ⟨VL,hv1,hv2,hv3⟩:=h.1.wh
 obtain ⟨aL,cL,eL,_,_,_,pL⟩:=aJ undef hv2.1
 rw [hv1,gL hm.gw] at eL
 rw [eT] at x17
 rw [eF] at x18
 rw [eL] at x25
 have RT:=Ib (show aG w 4 (.slice aT X.tab.length cT) (X.tab.map Sl.cells) by have:=h.1.ta.1;rw [eT] at this;exact this)
 have RL:=Ib (show aG w 1 (.slice aL 25 cL) (VL.map fun x=>[x]) by have:=hv2.1;rw [eL] at this;exact this)
 have Y:=Ib (And.intro x17 (And.intro x18 (And.intro x25 x8)))
 have PT:=Ib pT
 have PF:=Ib pF
 have PL:=Ib pL
 have HV:=Ib (And.intro hv1 hv3)
 have n40:=hm.gw.tb.2.1
 have f40:=hm.gw.len
 have HU:=Ib (Fk hm.gw)
 have HN:=Ib (Gd hm)
 have keep:∀ wr,Below w.heap.size w wr→GR p wr X V:=fun wr hb=>fJ h hb
 have HK:=Ib keep
 clear h hm eT eF eL hv1 hv2 hv3 pT pF pL keep
 go_enter Tryz.func72,Tryz.ntmps72
 go_wp2_with fail
 go_loopw [3,23] (fun u i wr=>∃ k:Nat,k≤X.tab.length∧i=.int .i64 k∧u=.int .i64 (Fm X.tab k:Nat)∧Below w.heap.size w wr) (fun _ i _=>X.tab.length - (intOf i).toNat)
 case atStart=>exact ⟨0,Ik _,rfl,by simp [Fm],Ic _ _⟩
 case round=>
  obtain ⟨k,hk,rfl,rfl,hbel⟩:=hrel;rcases (show k<X.tab.length∨k=X.tab.length by omega) with hlt|rfl
  ·have hlt':(k:Int)<(X.tab.length:Int):=by omega
   have k0:(0:Int)≤(k:Int):=by omega
   have hus:=usN_le X.tab k;have hst:=Cg hlt;obtain ⟨b1,o1,rfl,hb1,q1⟩:=PT.out (by intro e;rw [e] at hlt;simp at hlt);have a0:=(hbel.cell (p:=⟨b1,o1+k*4+0,none⟩) hb1).trans (q1 k 0 hlt (by omega));have a1:=(hbel.cell (p:=⟨b1,o1+k*4+1,none⟩) hb1).trans (q1 k 1 hlt (by omega));have a2:=(hbel.cell (p:=⟨b1,o1+k*4+2,none⟩) hb1).trans (q1 k 2 hlt (by omega));have a3:=(hbel.cell (p:=⟨b1,o1+k*4+3,none⟩) hb1).trans (q1 k 3 hlt (by omega));have HB:=Ib hbel;have hz:=hbel.size;generalize X.tab.getD k Sl.zero=s at a0 a1 a2 a3 hst;obtain ⟨s0,s1,s2,s3⟩:=s;simp only [Sl.cells,Il,Im,Nat.add_zero] at a0 a1 a2 a3 hst;clear q1 hbel
   cases s1 with
   | true=>
    rw [if_pos rfl] at hst;have HS:=Ib hst;clear hst;go_wp2;go_roundw
    case rel=>exact ⟨k+1,by omega,by go_num,by rw [HS.out];go_num,HB.out.alloc hz _⟩
    case measure=>simp [intOf];omega
   | false=>
    rw [if_neg (by simp)] at hst;have HS:=Ib hst;clear hst;go_wp2;go_roundw
    case rel=>exact ⟨k+1,by omega,by go_num,by rw [HS.out];rfl,HB.out.alloc hz _⟩
    case measure=>simp [intOf];omega
  ·have hge:¬ (X.tab.length:Int)<(X.tab.length:Int):=by omega
   rw [HU.out];have x25:=ae hbel Y.out.2.2.1 hp;have x18:=ae hbel Y.out.2.1 hp;have HB:=Ib hbel;have hz:=hbel.size;clear hbel;go_wp2_with fail;go_loopw [6,39] (fun u i wr=>∃ k:Nat,k≤25∧i=.int .i64 k∧u=.int .i64 (EX X.lists k:Nat)∧Below w.heap.size w wr) (fun _ i _=>25 - (intOf i).toNat)
   case atStart=>exact ⟨0,Ik _,rfl,by simp [EX],HB.out⟩
   case round=>
    obtain ⟨k,hk,rfl,rfl,hbel⟩:=hrel;rcases (show k<25∨k=25 by omega) with hlt|rfl
    ·have hlt':(k:Int)<25:=by omega
     have k0:(0:Int)≤(k:Int):=by omega
     have hL25:=gL HX.out.gw;have hlt2:k<X.lists.length:=by omega
     have hst:=De hlt2;have hle:=lnN_le X.lists (k+1);have hfl:=tc HX.out;obtain ⟨b1,o1,rfl,hb1,q1⟩:=PL.out (by intro e;have:=HV.out.1;rw [e] at this;simp at this;omega);have a0:=(hbel.cell (p:=⟨b1,o1+k*1+0,none⟩) hb1).trans (q1 k 0 (by rw [HV.out.1];exact hlt2) (by omega));have hrow:=(HV.out.2 k hlt2).1;obtain ⟨vv,hvv⟩:∃ vv,vv=VL.getD k undef:=⟨_,rfl⟩;obtain ⟨ll,hll⟩:∃ ll,ll=X.lists.getD k []:=⟨_,rfl⟩;rw [← hll] at hst hrow;rw [← hvv] at hrow a0;obtain ⟨av,cv,rfl,_⟩:=aj hrow;simp only [Il,Nat.add_zero,Nat.mul_one] at a0;have HS:=Ib hst;have HB:=Ib hbel;have hz:=hbel.size;have hsm:EX X.lists k+ll.length≤40:=by omega
     clear hst hle hfl hL25 hlt2 q1 hrow hvv hll hbel;go_wp2;go_roundw
     case rel=>exact ⟨k+1,by omega,by go_num,by rw [HS.out];go_num,HB.out⟩
     case measure=>simp [intOf];omega
    ·have hge:¬ ((25:Nat):Int)<25:=by omega
     rw [HN.out];have x18:=ae hbel Y.out.2.1 hp
     have hp1:p<wr.heap.size:=by have:=hbel.size;omega
     have HB:=Ib hbel;have hz:=hbel.size;clear hbel;go_wp2_with fail;go_loopw [9,72] (fun u i wr=>∃ k:Nat,k≤X.flows.length∧i=.int .i64 k∧u=.int .i64 (yF X.flows k)∧Below w.heap.size w wr) (fun _ i _=>X.flows.length - (intOf i).toNat)
     case atStart=>exact ⟨0,Ik _,rfl,rfl,HB.out⟩
     case round=>
      obtain ⟨k,hk,rfl,rfl,hbel⟩:=hrel;rcases (show k<X.flows.length∨k=X.flows.length by omega) with hlt|rfl
      ·have hlt':(k:Int)<(X.flows.length:Int):=by omega
       have k0:(0:Int)≤(k:Int):=by omega
       obtain ⟨b1,o1,rfl,hb1,q1⟩:=PF.out (by intro e;rw [e] at hlt;simp at hlt);have hbf:=GN HX.out.gw hlt;have hlo:=GO HX.out.gw hk;have hsu:=yE X.flows k;have hfm:=HX.out.gw.at_ hlt;have hff:=HX.out.gw.fl _ hfm;have hget:=HX.out.gw.get hfm;have hany:=tm_any HX.out hfm;have hr0:=hff.r0;have hr1:=hff.r1;have hst:=hff.st;obtain ⟨_,_,_,_,n1,n2,n3,n4,n5,n6⟩:=HX.out.gw.num hfm;have a0:=(hbel.cell (p:=⟨b1,o1+k*7+0,none⟩) hb1).trans (q1 k 0 hlt (by omega));have a1:=(hbel.cell (p:=⟨b1,o1+k*7+1,none⟩) hb1).trans (q1 k 1 hlt (by omega));have a2:=(hbel.cell (p:=⟨b1,o1+k*7+2,none⟩) hb1).trans (q1 k 2 hlt (by omega));have a3:=(hbel.cell (p:=⟨b1,o1+k*7+3,none⟩) hb1).trans (q1 k 3 hlt (by omega));have a4:=(hbel.cell (p:=⟨b1,o1+k*7+4,none⟩) hb1).trans (q1 k 4 hlt (by omega));have a5:=(hbel.cell (p:=⟨b1,o1+k*7+5,none⟩) hb1).trans (q1 k 5 hlt (by omega));have a6:=(hbel.cell (p:=⟨b1,o1+k*7+6,none⟩) hb1).trans (q1 k 6 hlt (by omega));obtain ⟨f,hf⟩:∃ f,f=X.flows.getD k Fl.zero:=⟨_,rfl⟩;rw [← hf] at a0 a1 a2 a3 a4 a5 a6 hbf hsu hget hany hr0 hr1 hst n1 n2 n3 n4 n5 n6;obtain ⟨f0,f1,f2,f3,f4,f5,f6⟩:=f;simp only [Fl.cells,Il,Im,Nat.add_zero] at a0 a1 a2 a3 a4 a5 a6 hbf hsu hget hany hr0 hr1 hst n1 n2 n3 n4 n5 n6;have HSu:=Ib hsu;have HGe:=Ib hget;have HAn:=Ib hany;have HSt:=Ib hst;have HBz:=Ib hbel;have hz:=hbel.size;have hp1:p<wr.heap.size:=by omega
       clear hsu hget hany hst hff hfm hf q1 hbel;go_wp2_with fail;refine aW _ (fun wb hwb=>?_)
       have bwb:Below w.heap.size w wb:=by rw [hwb];exact HBz.out.alloc hz _
       obtain ⟨bf,hbfe⟩:∃ bf,bf=wr.heap.size:=⟨_,rfl⟩
       have hbb:wb.heap[bf]?=some (.cells #[.int .i64 f0,.int .i64 f1,.int .i64 f2,.int .i64 f3,.bool f4,.int .i64 f5,.int .i64 f6] 112 (0,0)):=by rw [hwb];exact au _ hbfe
       have lbf:=lt_of_block hbb
       have hpb:p<wb.heap.size:=by rw [hwb];simp;omega
       have hbp:bf≠p:=by omega
       have hpn:bf≠p:=hbp;have e0:wb.cell? ⟨bf,0,none⟩=some (.int .i64 f0):=aa hbb 0;have e1:wb.cell? ⟨bf,1,none⟩=some (.int .i64 f1):=aa hbb 1;have x17:=ae bwb Y.out.1 hp;have HBb:=Ib (And.intro bwb hbb);rw [← hbfe];clear hwb hbfe bwb hbb a0 a1 a2 a3 a4 a5 a6 x18;have HTb:=Ib (aq RT.out HBb.out.1);refine Hv (P:=?jP1) (F:=fun nb wz=>Below wb.heap.size wb wz∧wz.heap[nb]?=some (.cells #[.int .i64 f1,.bool true,.int .i64 f2,.int .i64 f3] 169 (0,0))∧wb.heap.size≤nb) (fun key=>?jm1) ?jr1
       case jm1=>
        refine Zr (fun w':World=>w'.cell? ⟨p,17,none⟩=some (.slice aT X.tab.length cT)∧w'.cell? ⟨bf,0,none⟩=some (.int .i64 f0)∧w'.cell? ⟨bf,1,none⟩=some (.int .i64 f1)) (fun hHeld=>?_);refine eP 0 ?_;refine dd 4 ?_;refine Zt 6 ?_;refine Z2 7 11 (fun K hK=>?_) (fun K hK=>?_);(focus (go_simp;(go_at_call 102;refine (fU X.tab f0 f1 ⟨f1,true,f2,f3⟩ 0 _ _ (aq HTb.out Zb) HGe.out).mono ?_;rintro e w2 ⟨rfl,hb2⟩;have hz2:=hb2.size;(try simp at hz2);(try (have bxb:=ai hb2 (cE wb _) (dL wb _);have bx0:w2.cell? ⟨wb.heap.size,0,none⟩=some (.int .i64 0):=aa bxb 0;have bx1:w2.cell? ⟨wb.heap.size,1,none⟩=some (.bool false):=aa bxb 1;have bx2:w2.cell? ⟨wb.heap.size,2,none⟩=some (.int .i64 0):=aa bxb 2;have bx3:w2.cell? ⟨wb.heap.size,3,none⟩=some (.int .i64 0):=aa bxb 3;have bxf:∀ n,w2.frozen? ⟨wb.heap.size,n,none⟩=false:=ap bxb));(try dsimp only));(try go_wp2_with fail);refine Zk hK fun hHeld=>?_;clear hK K;refine dd 8 ?_;refine Zt 10 ?_;refine Z1 11 (fun K hK=>?_);go_simp;refine Zk hK fun hHeld=>?_;clear hK K));rotate_left 1;(focus (go_simp;refine Zk hK fun hHeld=>?_;clear hK K;refine Z1 7 (fun K hK=>?_);go_simp;(go_at_call 102;refine (fU X.tab f0 f1 ⟨f1,true,f2,f3⟩ 0 _ _ (aq HTb.out Zb) HGe.out).mono ?_;rintro e w2 ⟨rfl,hb2⟩;have hz2:=hb2.size;(try simp at hz2);(try (have bxb:=ai hb2 (cE wb _) (dL wb _);have bx0:w2.cell? ⟨wb.heap.size,0,none⟩=some (.int .i64 0):=aa bxb 0;have bx1:w2.cell? ⟨wb.heap.size,1,none⟩=some (.bool false):=aa bxb 1;have bx2:w2.cell? ⟨wb.heap.size,2,none⟩=some (.int .i64 0):=aa bxb 2;have bx3:w2.cell? ⟨wb.heap.size,3,none⟩=some (.int .i64 0):=aa bxb 3;have bxf:∀ n,w2.frozen? ⟨wb.heap.size,n,none⟩=false:=ap bxb));(try dsimp only));(try go_wp2_with fail);refine Zk hK fun hHeld=>?_;clear hK K;refine dd 8 ?_;refine Zt 10 ?_));rotate_left 1;(all_goals (refine Z1 12 (fun K hK=>?_);go_simp;refine Zk hK fun hHeld=>?_;clear hK K;refine Zt 13 ?_));(all_goals refine Zd ?_)
        ·refine aW _ (fun wz hwz=>?_)
         have hbz:Below wb.heap.size wb wz:=by rw [hwz];exact (Ig (Id (Ic _ _)) (hb2.mono (by simp))).alloc (by omega) _
         obtain ⟨nb,hnb⟩:∃ nb,nb=w2.heap.size:=⟨_,rfl⟩;rw [← hnb];exact key nb wz ⟨hbz,by rw [hwz];exact au _ hnb,by omega⟩
        ·refine aW _ (fun wz hwz=>?_);have hba:Below wb.heap.size wb w2:=Ig (Id ((Ic _ _).alloc (Ij _) _)) (hb2.mono (by simp));have hle:=Ij wb.heap.size
         have hbz:Below wb.heap.size wb wz:=by rw [hwz];exact (((hba.setCell hle _).setCell hle _).setCell hle _).setCell hle _
         obtain ⟨nb,hnb⟩:∃ nb,nb=wb.heap.size:=⟨_,rfl⟩;rw [← hnb];exact key nb wz ⟨hbz,by rw [hwz,hnb];exact aP (aP (aP (aP bxb _) _) _) _,by omega⟩
       case jr1=>
        rintro nb wz ⟨hbz,hnb,hnl⟩;have bzw:Below w.heap.size w wz:=HBb.out.1.trans (hbz.mono HBb.out.1.size);have hbf':=ai hbz HBb.out.2 lbf;have y0:wz.cell? ⟨bf,0,none⟩=some (.int .i64 f0):=aa hbf' 0;have y2:wz.cell? ⟨bf,2,none⟩=some (.int .i64 f2):=aa hbf' 2;have y3:wz.cell? ⟨bf,3,none⟩=some (.int .i64 f3):=aa hbf' 3;have y5:wz.cell? ⟨bf,5,none⟩=some (.int .i64 f5):=aa hbf' 5;have y6:wz.cell? ⟨bf,6,none⟩=some (.int .i64 f6):=aa hbf' 6;have s2:wz.cell? ⟨nb,2,none⟩=some (.int .i64 f2):=aa hnb 2;have s3:wz.cell? ⟨nb,3,none⟩=some (.int .i64 f3):=aa hnb 3;have x8:=ae bzw Y.out.2.2.2 hp;have lnb:=lt_of_block hnb;have lbz:=lt_of_block hbf'
        have hpz:p<wz.heap.size:=by have:=bzw.size;omega
        have hng:¬ f0≤yF X.flows k:=by omega
        have HZ:=Ib (And.intro bzw hbf');clear hbz hnb hnl bzw hbf' e0 e1 x17;go_wp2_with fail;go_quiet ((go_at_call 66;exact Calls.quiet_of_same ((lE _ _ _ _ hr0 hr1).mono (fun _ _ h=>⟨h.1,h.2.symm⟩))));go_wp2_with fail;refine eU _ (fun wc hwc=>?_)
        have bwc:Below wz.heap.size wz wc:=by rw [hwc];exact aI (Ic _ _)
        have bww:=HZ.out.1.trans (bwc.mono HZ.out.1.size);have HC:=Ib (And.intro bww (ai bwc HZ.out.2 lbz));refine (dY (HK.out wc bww) f3 HX.out.gw.bk).mono ?_;rintro e w3 ⟨rfl,hb3⟩;have b3w:=HC.out.1.trans (hb3.mono HC.out.1.size);have hb3':=ai hb3 HC.out.2 (lt_of_block HC.out.2);have y6:w3.cell? ⟨bf,6,none⟩=some (.int .i64 f6):=aa hb3' 6;have x25:=ae b3w Y.out.2.2.1 hp;have l3:=lt_of_block hb3'
        have hp3:p<w3.heap.size:=by have:=b3w.size;omega
        have H3:=Ib b3w;obtain ⟨st,hst⟩:∃ st,st=gp X.lives f3:=⟨_,rfl⟩;have hst':=HSt.out;rw [← hst] at hst' ⊢;clear hwc bwc bww hb3 b3w hb3' hst y0 y2 y3 y5 s2 s3 x8 hng lnb lbz hpz;rcases hst' with rfl|rfl
        all_goals
         go_wp2_with fail
         refine eU _ (fun wd hwd=>?_)
         have bd:Below w3.heap.size w3 wd:=by rw [hwd];exact (Ic _ _).alloc (Ij _) _
         have hbt:wd.heap[w3.heap.size]?=some (.cells #[.int .i64 f6,.int .i64 f0] 180 (0,0)):=by rw [hwd];exact au _ rfl
         have bdw:=H3.out.trans (bd.mono H3.out.size)
         have t0:wd.cell? ⟨w3.heap.size,0,none⟩=some (.int .i64 f6):=aa hbt 0
         have t1:wd.cell? ⟨w3.heap.size,1,none⟩=some (.int .i64 f0):=aa hbt 1
         have lbt:=lt_of_block hbt
         have hVl:VL.length=25:=by rw [HV.out.1];exact gL HX.out.gw
         have hct:=Ee 123 ⟨w3.heap.size,0,none⟩ (fun _ _=>rfl) (fun i=>decide ((⟨f6,f0⟩:Tm)∈X.lists.getD i [])) (.slice aL 25 cL) VL wd (aq RL.out bdw) (by omega)
          (fun i hi w' hb'=>flows1 (VL.getD i undef) (X.lists.getD i []) ⟨f6,f0⟩ w3.heap.size w' (aq (HV.out.2 i (by rw [← HV.out.1];exact hi)).1 (bdw.trans (hb'.mono bdw.size))) (ae hb' t0 lbt) (ae hb' t1 lbt)) (by rw [hVl];exact HAn.out)
         refine hct.mono ?_
         rintro e w4 ⟨rfl,hb4⟩
         have H4:=Ib (bdw.trans (hb4.mono bdw.size))
         clear hct hwd bd hbt bdw t0 t1 hb4 x25 y6
         go_wp2
         go_roundw
         case rel=>exact ⟨k+1,by omega,by go_num,by rw [HSu.out],H4.out⟩
         case measure=>simp [intOf];omega
      ·have hge:¬ (X.flows.length:Int)<(X.flows.length:Int):=by omega
       have HB:=Ib hbel;clear hbel;go_wp2
       all_goals first|(go_ret;exact ⟨rfl,HB.out⟩)|exact Zx
structure LvS (w w1:World) (L:List Lf) (k:Nat) (wr:World):Prop where
 be:Below w.heap.size w wr
 rg:∃ a c,wr.heap[w.heap.size]?=some (.cells #[.slice a (nc L k).length c] 46 (0,0))∧cZ (fun b=>w.heap.size<b) wr 2 (.slice a (nc L k).length c) ((nc L k).map Sp.cells)
 kp:Kp (w.heap.size+1) w1 wr
theorem LvS.keep {w w1 wr wr':World} {L:List Lf} {k:Nat} (h:LvS w w1 L k wr) (hb:Below wr.heap.size wr wr'):LvS w w1 L k wr':=by
 obtain ⟨a,c,h1,h2⟩:=h.rg;exact ⟨h.be.trans (hb.mono h.be.size),⟨a,c,ai hb h1 (lt_of_block h1),bG h2 hb.size (fun b hb' _=>hb.block b hb')⟩,h.kp.trans (Kp.of_below hb)⟩
theorem LvS.step {w w1 wr wr':World} {L:List Lf} {k:Nat} (h:LvS w w1 L k wr) (e:nc L (k+1)=nc L k) (hb:Below wr.heap.size wr wr'):LvS w w1 L (k+1) wr':=by
 have:=h.keep hb;obtain ⟨a,c,h1,h2⟩:=this.rg;exact ⟨this.be,⟨a,c,by rw [e];exact h1,by rw [e];exact h2⟩,this.kp⟩
theorem LvS.new {w w1 wr wr':World} {L:List Lf} {k:Nat} {a:Option Addr} {c:Nat} (h:LvS w w1 L k wr) (hb:Below wr.heap.size wr wr') (r:aM wr.heap.size wr' 2 (.slice a (nc L (k+1)).length c) ((nc L (k+1)).map Sp.cells)) :
  LvS w w1 L (k+1) (wr'.setCell ⟨w.heap.size,0,none⟩ (.slice a (nc L (k+1)).length c)):=by
 obtain ⟨a',c',h1,h2⟩:=h.rg
 have hlt:=lt_of_block h1
 have hk:=(h.keep hb)
 obtain ⟨a2,c2,k1,_⟩:=hk.rg
 refine ⟨hk.be.setCell (Ij _) _,⟨a,c,aP k1 _,?_⟩,hk.kp.set (Nat.lt_succ_self _) _ _⟩
 exact bG (bR (eC r) (fun b _ hb'=>(by omega:w.heap.size<b))) (by simp) (fun b _ hb'=>Ii _ _ _ _ (fun e:b=w.heap.size=>by omega))
theorem uW {p:Nat} {w:World} {X:Wd} {V:Vs} (h:GR p w X V) (hm:WdMay X) :
  Calls Tryz.prog 73 #[.pointer (some ⟨p,0,none⟩)] w fun e w'=>e=.returned (.bool true)∧Below w.heap.size w w':=by
 have HX:=Ib hm
 have hp:=h.2.2.2.1
 have x17:=h.c 17 (v:=V.t) rfl
 have x19:=h.c 19 (v:=V.l) rfl
 have x21:=h.c 21 (v:=V.s) rfl
 have x16:=h.c 16 (v:=.int .i64 X.now) rfl
 obtain ⟨aT,cT,eT,_,_,_,pT⟩:=aJ Sl.zero h.1.ta.1
 obtain ⟨aL,cL,eL,_,_,_,pL⟩:=aJ Lf.zero h.1.li.1
 obtain ⟨aS,cS,eS,_⟩:=aj h.1.sp.1
 rw [eT] at x17
 rw [eL] at x19
 rw [eS] at x21
 have RT:=Ib (show aG w 4 (.slice aT X.tab.length cT) (X.tab.map Sl.cells) by have:=h.1.ta.1;rw [eT] at this;exact this)
 have RS:=Ib (show aG w 2 (.slice aS X.ring.length cS) (X.ring.map Sp.cells) by have:=h.1.sp.1;rw [eS] at this;exact this)
 obtain ⟨bT,oT,rfl,hbT,qT⟩:=pT (by intro e;have:=hm.gw.tb.1;rw [e] at this;simp at this)
 have QT:=Ib qT
 have PL:=Ib pL
 have Y:=Ib (And.intro x19 (And.intro x21 x16))
 have n12:X.lives.length≤12:=hm.gw.bk.1
 clear h hm eT eL eS pT pL qT
 go_enter Tryz.func73,Tryz.ntmps73
 go_wp2_with fail
 refine eU _ (fun wa hwa=>?_)
 have ba:Below w.heap.size w wa:=by rw [hwa];exact (Ic _ _).alloc (Ij _) _
 have ka:wa.heap[w.heap.size]?=some (.cells #[.slice none 0 0] 46 (0,0)):=by rw [hwa];exact au _ rfl
 have za:wa.heap.size=w.heap.size+1:=by rw [hwa];simp
 refine (jP bT oT cT X.tab wa (by omega) HX.out.gw.tb (aq RT.out ba) (fun i j hi hj=>(ba.cell (p:=⟨bT,_,none⟩) hbT).trans (QT.out i j hi hj))).mono ?_
 rintro e w1 ⟨vc,rfl,rc,hb1⟩
 have b1:=ba.trans (hb1.mono ba.size)
 have k1:=ai hb1 ka (lt_of_block ka)
 obtain ⟨vca,vcc,rfl,_,_,_,pC⟩:=aJ (0:Int) rc.1
 rw [gO] at *
 obtain ⟨bC,oC,rfl,hbC,qC⟩:=pC (by intro e;have:=gO X.tab X.tab.length;rw [e] at this;simp at this)
 have hbC2:w.heap.size<bC:=by have:=rc.2 _ _ _ rfl;simp only at this;omega
 have QC:=Ib qC
 have x19:=ae b1 Y.out.1 hp
 have hp1:p<w1.heap.size:=by have:=b1.size;omega
 have S0:=Ib (show LvS w w1 X.lives 0 w1 from ⟨b1,⟨none,0,by rw [Cz];exact k1,by rw [Cz];exact ⟨io _ _,fun b o n c e _=>by cases e⟩⟩,Kp.refl _ _⟩)
 clear hwa ba ka za rc hb1 b1 k1 pC qC x16 x21 x17
 go_wp2_with fail
 go_loopw [25] (fun i wr=>∃ k:Nat,k≤X.lives.length∧i=.int .i64 k∧LvS w w1 X.lives k wr) (fun i _=>X.lives.length - (intOf i).toNat)
 case atStart=>exact ⟨0,Ik _,rfl,S0.out⟩
 case round=>
  obtain ⟨k,hk,rfl,hs⟩:=hrel;have HS:=Ib hs;have hbel:=hs.be;have hz:=hbel.size;have hpr:p<wr.heap.size:=by omega
  rcases (show k<X.lives.length∨k=X.lives.length by omega) with hlt|rfl
  ·have hlt':(k:Int)<(X.lives.length:Int):=by omega
   have k0:(0:Int)≤(k:Int):=by omega
   obtain ⟨b1,o1,rfl,hb1,q1⟩:=PL.out (by intro e;rw [e] at hlt;simp at hlt)
   have hm:X.lives.getD k Lf.zero∈X.lives:=by rw [aK hlt];exact Iw hlt
   have hbk:=dz HX.out.gw.bk hm;have hsi:=HX.out.gw.si _ hm;have hun:=HX.out.un _ hm;have hcp:=GH HX.out.gw hm;have had:=rl_add HX.out.gw.bk hlt;have hke:=FG HX.out.gw.bk hlt;have hrl:=jx (Cy HX.out.gw.bk k);have a0:=(hbel.cell (p:=⟨b1,o1+k*6+0,none⟩) hb1).trans (q1 k 0 hlt (by omega));have a1:=(hbel.cell (p:=⟨b1,o1+k*6+1,none⟩) hb1).trans (q1 k 1 hlt (by omega));have a2:=(hbel.cell (p:=⟨b1,o1+k*6+2,none⟩) hb1).trans (q1 k 2 hlt (by omega));have a3:=(hbel.cell (p:=⟨b1,o1+k*6+3,none⟩) hb1).trans (q1 k 3 hlt (by omega));have a4:=(hbel.cell (p:=⟨b1,o1+k*6+4,none⟩) hb1).trans (q1 k 4 hlt (by omega));have a5:=(hbel.cell (p:=⟨b1,o1+k*6+5,none⟩) hb1).trans (q1 k 5 hlt (by omega));have x16:=ae hbel Y.out.2.2 hp;obtain ⟨x,hx⟩:∃ x,x=X.lives.getD k Lf.zero:=⟨_,rfl⟩;rw [← hx] at a0 a1 a2 a3 a4 a5 hbk hsi hun hcp had hke;obtain ⟨x0,x1,x2,x3,x4,x5⟩:=x;simp only [Lf.cells,Il,Im,Nat.add_zero] at a0 a1 a2 a3 a4 a5 hbk hsi hun hcp had hke;obtain ⟨h0,h1,h2,h3,h4,h5,h6,h7,h8,h9,hst⟩:=hbk;simp only at h0 h1 h2 h3 hst;have HCp:=Ib hcp;have HAd:=Ib had;have HKe:=Ib hke;have HUn:=Ib hun;have nsi:¬ X.now<x3:=by omega
   have hst4:x1=1∨x1=2∨x1=3∨x1=4:=by omega
   clear hm hx hcp had hke hun hst q1 h4 h5 h6 h7 h8 h9 hs;obtain ⟨n0,rfl⟩:=Iy h0;obtain ⟨ra,rc,hr1,hr2⟩:=HS.out.rg;have xr:wr.cell? ⟨w.heap.size,0,none⟩=some (.slice ra (nc X.lives k).length rc):=aa hr1 0;have lr:=lt_of_block hr1;have HR1:=Ib (And.intro hr1 hr2);have n0':n0<12:=by omega
   have hkp:=HS.out.kp
   have cC:wr.cell? ⟨bC,oC+n0,none⟩=some (.int .i64 ((gC X.tab X.tab.length).getD n0 0)):=by
    have:=QC.out n0 0 n0' (by omega);simp only [Nat.mul_one,Nat.add_zero,Il] at this;rw [← this];exact Ip (a:=⟨bC,oC+n0,none⟩) (hkp.2 bC (by omega) hbC)
   obtain ⟨cv,hcv⟩:∃ cv,cv=(gC X.tab X.tab.length).getD n0 0:=⟨_,rfl⟩;rw [← hcv] at cC;have HCv:=Ib hcv;have n0i:(n0:Int)<12:=by omega
   have n0j:(0:Int)≤(n0:Int):=by omega
   have lC:bC<wr.heap.size:=by have:=hkp.1;omega
   clear hr1 hr2 hkp hcv;rcases hst4 with rfl|rfl|rfl|rfl
   ·exact Q40
   ·go_wp2_with fail;go_quiet (fail);go_wp2_with fail;refine eU _ (fun wc hwc=>?_)
    have bwc:Below wr.heap.size wr wc:=by rw [hwc];exact (by repeat (first|exact Ic _ _|refine aI ?_|refine Ih ?_ (by first|omega|(simp;done)|(simp;omega)) _))
    refine (pY _ (nc X.lives k) wc (n0:Int) x2 (nc X.lives (k+1)) 0 (aq HR1.out.2.1 bwc) (by omega) (HAd.out (by first|rfl|trivial))).mono ?_;rintro e w2 ⟨v2,rfl,R2,hb2⟩;obtain ⟨a2,c2,rfl,_⟩:=aj R2.1;have bw2:=bwc.trans (hb2.mono bwc.size);have hk2:=ai bw2 HR1.out.1 lr;have xr:w2.cell? ⟨w.heap.size,0,none⟩=some (.slice ra (nc X.lives k).length rc):=aa hk2 0;have xf:∀ n,w2.frozen? ⟨w.heap.size,n,none⟩=false:=fun n=>ap hk2 n;have lr2:=lt_of_block hk2;have hsz:=bwc.size;have HN:=Ib (HS.out.new bw2 ⟨R2.1,fun a n c e=>IG hsz (R2.2 a n c e)⟩);clear hwc bwc hb2 bw2 hk2 R2 hsz cC;go_wp2;go_roundw
    case rel=>exact ⟨k+1,by omega,by go_num,HN.out⟩
    case measure=>simp [intOf];omega
   ·have nun:¬ x4≤X.now:=by have:=HUn.out rfl;omega
    have ncv:¬ cv=0:=by have:=HCp.out rfl;rw [Iu] at this;rw [HCv.out];exact this
    have nunD:decide (x4≤X.now)=false:=by simpa using nun
    have ncvD:decide (cv=0)=false:=by simpa using ncv
    have ncvB:(cv == 0)=false:=by simpa using ncv
    go_wp2_with fail;go_quiet (fail);exact Q40
   ·exact Q40
  ·have hge:¬ (X.lives.length:Int)<(X.lives.length:Int):=by omega
   obtain ⟨ra,rc,hr1,hr2⟩:=hs.rg;have xr:wr.cell? ⟨w.heap.size,0,none⟩=some (.slice ra (nc X.lives X.lives.length).length rc):=aa hr1 0;have lr:=lt_of_block hr1;have x21:=ae hbel Y.out.2.1 hp;have HQ:=Ib (And.intro hr2.1 (aq RS.out hbel));have HG:=Ib (rl_all HX.out.gw);have HB:=Ib hbel;clear hs hr1 hr2 hbel;go_wp2_with fail;go_quiet ((go_at_call 57;exact Calls.quiet_of (zL _ _ (nc X.lives X.lives.length) X.ring _ (dB HQ.out.1 _) (dB HQ.out.2 _) true (Or.inl ⟨HG.out,rfl⟩))));go_wp2
   all_goals first|(go_ret;exact ⟨rfl,(by repeat (first|exact HB.out|refine aI ?_))⟩)|exact Zx
end
end Go.Proofs.YtocbhafgjepnjaaGreat
