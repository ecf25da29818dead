/- Texts of the row's proof. Conditions: none. -/
import Derived.Test.YtfliffgmeobclaaGreatK37
namespace Go.Proofs.YtfliffgmeobclaaGreat
set_option maxRecDepth 100000
set_option maxHeartbeats 8000000
section
open Go.RowKit
theorem GwMay.req {X:Wd} (h:GwMay X) {R':List Rq} (hR:bF X.lives R'):GwMay { X with lives:=X.lives,reqs:=R' }:=nG h hR rfl (fun f hf=>(h.fl f hf).st) h.dr h.si
theorem ui {X:Wd} {e:Ev} {L':List Lf} {R':List Rq} {ans:Int} {nw:Bool} (h:nw=false∨ans≠0∨e.kind≠6):(jF X e L' R' ans nw).1={ X with lives:=L',reqs:=R' }:=by
 unfold jF;simp only;rw [if_pos h]
def Hf (X:Wd) (e:Ev) (L':List Lf) (ans:Int) (nw:Bool):Prop:=nw=true→ans=0→e.kind=6→gL X.lives e.backend≠1→ul X.ring e.backend (bO (dM L')) 0
theorem ug {X:Wd} (h:GwMay X) {e:Ev} (he:uy e) {L':List Lf} {R':List Rq} {ans:Int} {nw:Bool} (hg:oA X.lives X.reqs ⟨e.request,fE e.kind,e.backend,e.weight,0⟩ X.now X.cf.drain L' R' ans nw) :
  bF L' R'∧Hf X e L' ans nw∧GwMay (jF X e L' R' ans nw).1:=by
 have hs:=cG h.bk
 have h0:=h.n0;have h1:=h.n1
 have hd:=h.cf.1.1
 obtain ⟨ek,er0,er1,eb0,eb1⟩:=he
 rcases hg with ⟨q,_,_,rfl,rfl,_,rfl⟩|⟨hn,⟨_,rfl,rfl,rfl,rfl⟩|⟨hl,rfl,⟨hk,hj,rfl⟩|⟨hk,hr,rfl⟩⟩⟩
 ·exact Q158
 ·exact Q158
 ·have hk6:e.kind≠6:=by intro g;simp [fE,g] at hk
  have hR:bF X.lives (X.reqs++[⟨e.request,1,e.backend,e.weight,ans⟩]):=E0 h.bk ⟨er0,er1,Or.inl rfl⟩ hn hl;rw [ui (Or.inr (Or.inr hk6))];have hno:Hf X e L' ans true:=fun _ _ g=>absurd g hk6;simp only [xi] at hj;rcases hj with ⟨_,rfl,rfl⟩|⟨_,_,rfl,rfl⟩|⟨hw,⟨i,hi,hx,h4,rfl⟩,rfl⟩|⟨hw,hx,rfl,rfl⟩
  ·exact ⟨hR,hno,h.req hR⟩
  ·exact ⟨hR,hno,h.req hR⟩
  ·have hb:(lh ⟨e.request,fE e.kind,e.backend,e.weight,0⟩).backend=(X.lives.getD i Lf.zero).backend:=by
    have:=(dz ((fH X.lives e.backend).2 i hx hi)).2;exact this.symm
   have hy:ex (lh ⟨e.request,fE e.kind,e.backend,e.weight,0⟩):=⟨hw.1.1,hw.1.2,hw.2.1,hw.2.2,(by decide:(0:Int)≤0),(by decide:(0:Int)≤1099511627776),(by decide:(0:Int)≤0),(by decide:(0:Int)≤1099511628276),(by decide:(0:Int)≤0),(by decide:(0:Int)≤1048576),Or.inl ⟨rfl,rfl,rfl,rfl⟩⟩;exact ⟨nH hR hi hy hb,hno,vA h hR hi hy hb (Or.inl rfl) (Or.inr h4) h0⟩
  ·have hy:ex (lh ⟨e.request,fE e.kind,e.backend,e.weight,0⟩):=⟨hw.1.1,hw.1.2,hw.2.1,hw.2.2,(by decide:(0:Int)≤0),(by decide:(0:Int)≤1099511627776),(by decide:(0:Int)≤0),(by decide:(0:Int)≤1099511628276),(by decide:(0:Int)≤0),(by decide:(0:Int)≤1048576),Or.inl ⟨rfl,rfl,rfl,rfl⟩⟩
   have hne:∀ g∈X.lives,g.backend≠(lh ⟨e.request,fE e.kind,e.backend,e.weight,0⟩).backend:=by
    intro g hg;rcases bJ (cE e.backend) X.lives Lf.zero with ⟨_,h6⟩|⟨i,hi,he',_⟩
    ·have:=h6 g hg;simp [cE] at this;exact this
    ·omega
   have hM:=D4 h hR hy hne rfl h0;exact ⟨hM.bk,hno,hM⟩
 ·have hk6:e.kind=6:=by
   refine Classical.byContradiction fun g=>?_;simp [fE,g] at hk
  have hR:bF X.lives (X.reqs++[⟨e.request,2,e.backend,0,ans⟩]):=E0 h.bk ⟨er0,er1,Or.inr rfl⟩ hn hl;simp only [wZ] at hr;rcases hr with ⟨_,rfl,rfl⟩|⟨_,rfl,rfl⟩|⟨_,rfl,rfl⟩|⟨i,hi,hx,hst,rfl,rfl⟩
  ·exact Q88
  ·exact Q88
  ·exact Q88
  ·have hm:X.lives.getD i Lf.zero∈X.lives:=by rw [aN hi];exact I8 hi
   have hxb:(X.lives.getD i Lf.zero).backend=e.backend:=(dz ((fH X.lives e.backend).2 i hx hi)).2
   have hsB:gL X.lives e.backend=(X.lives.getD i Lf.zero).state:=by rw [← hxb];exact pz hs hm
   have hsi:=h.si _ hm;obtain ⟨a1,a2,a3,a4,a5,a6,a7,a8,a9,a10,hst4⟩:=eO h.bk hm;have u1:0≤X.now+X.cf.drain:=by omega
   have u2:X.now+X.cf.drain≤1099511628276:=by omega
   by_cases hj1:(X.lives.getD i Lf.zero).state=1
   ·have hy4:(jl (X.lives.getD i Lf.zero) ⟨e.request,2,e.backend,0,0⟩ X.now X.cf.drain).state=4:=if_pos hj1;have hy:ex (jl (X.lives.getD i Lf.zero) ⟨e.request,2,e.backend,0,0⟩ X.now X.cf.drain):=⟨a1,a2,a3,a4,a5,a6,u1,u2,er0,er1,Or.inr (Or.inr (Or.inr hy4))⟩;refine ⟨nH hR hi hy rfl,fun _ _ _ g=>absurd (hsB.trans hj1) g,?_⟩;unfold jF;simp only;rw [if_neg (by simp [hk6]),if_pos (hsB.trans hj1)];exact vA h hR hi hy rfl (Or.inr hy4) (Or.inl hj1) hsi
   ·have hy3:(jl (X.lives.getD i Lf.zero) ⟨e.request,2,e.backend,0,0⟩ X.now X.cf.drain).state=3:=if_neg hj1;have h2:(X.lives.getD i Lf.zero).state=2:=by omega
    have hy:ex (jl (X.lives.getD i Lf.zero) ⟨e.request,2,e.backend,0,0⟩ X.now X.cf.drain):=⟨a1,a2,a3,a4,a5,a6,u1,u2,er0,er1,Or.inr (Or.inr (Or.inl hy3))⟩;have hyb:(jl (X.lives.getD i Lf.zero) ⟨e.request,2,e.backend,0,0⟩ X.now X.cf.drain).backend=e.backend:=hxb;refine ⟨nH hR hi hy rfl,fun _ _ _ _=>?_,?_⟩
    ·have:=CW h hi (y:=(jl (X.lives.getD i Lf.zero) ⟨e.request,2,e.backend,0,0⟩ X.now X.cf.drain)) rfl hy3 h2;rw [hyb] at this;exact this
    ·unfold jF;simp only;rw [if_neg (by simp [hk6]),if_neg (by rw [hsB];exact hj1)];have:=lI (CX h hR hi hy rfl hy3 hsi);rw [hyb] at this;exact this
structure Goes (X Y:Wd):Prop where
 now:Y.now=X.now
 fl:∀ f∈Y.flows,(∃ g∈X.flows,g.due=f.due)∨X.now<f.due
 lv:∀ x∈Y.lives,x.state=3→x∈X.lives∨X.now<x.until_
theorem Goes.refl (X:Wd):Goes X X:=⟨rfl,fun f hf=>Or.inl ⟨f,hf,rfl⟩,fun _ h _=>Or.inl h⟩
theorem Goes.trans {X Y Z:Wd} (h:Goes X Y) (k:Goes Y Z):Goes X Z:=by
 refine ⟨k.now.trans h.now,fun f hf=>?_,fun x hx h3=>?_⟩
 ·rcases k.fl f hf with ⟨g,hg,e⟩|g
  ·rw [← e];exact h.fl g hg
  ·rw [h.now] at g;exact Or.inr g
 ·rcases k.lv x hx h3 with g|g
  ·exact h.lv x g h3
  ·rw [h.now] at g;exact Or.inr g
theorem WdMay.goes {X Y:Wd} (h:WdMay X) (hY:GwMay Y) (g:Goes X Y):WdMay Y:=by
 refine ⟨hY,fun f hf=>?_,fun x hx h3=>?_⟩
 ·rw [g.now];rcases g.fl f hf with ⟨k,hk,e⟩|k
  ·rw [← e];exact h.du k hk
  ·exact k
 ·rw [g.now];rcases g.lv x hx h3 with k|k
  ·exact h.un x k h3
  ·exact k
theorem StepS.goes {P Q:Wd×List Out} {s:Int} (h:StepS P Q s):Goes P.1 Q.1:=by
 refine ⟨h.now,fun f hf=>?_,fun x hx h3=>Or.inl (h.lv x hx h3)⟩;rcases h.fl f hf with ⟨g,_⟩|g
 ·exact Or.inl ⟨f,g,rfl⟩
 ·exact Or.inr g
theorem uK (X:Wd) (b:Int):Goes X (bZ X b).1:=by
 obtain ⟨L,e,hL,_⟩:=jw X b;rw [e];exact ⟨rfl,fun f hf=>Or.inl ⟨f,hf,rfl⟩,fun x hx h3=>Or.inl (hL x hx h3)⟩
theorem rX {X:Wd} (h:GwMay X) (key:Nat):Goes X (gj X key).1:=by
 have hcn:=h.cf.1.1;unfold gj;by_cases h1:aQ fh X.tab<0
 ·rw [if_pos h1];exact .refl X
 ·rw [if_neg h1];by_cases h2:(dC X key (-1)).2≠0
  ·rw [if_pos h2];exact .refl X
  ·rw [if_neg h2];refine ⟨rfl,fun f hf=>?_,fun x hx _=>Or.inl hx⟩;rcases jn.1 hf with rfl|hf
   ·exact Or.inr (by simp only;omega)
   ·exact Or.inl ⟨f,hf,rfl⟩
theorem ss {X:Wd} (h:GwMay X) (i:Nat):Goes X (mD X i):=by
 have hcn:=h.cf.1.1;refine ⟨rfl,fun f hf=>?_,fun x hx _=>Or.inl hx⟩;rcases List.mem_or_eq_of_mem_set hf with hf|rfl
 ·exact Or.inl ⟨f,hf,rfl⟩
 ·exact Or.inr (by simp only;omega)
theorem uN {X:Wd} {i:Nat} (hi:i<X.flows.length):Goes X (iV X i):=by
 refine ⟨rfl,fun f hf=>?_,fun x hx _=>Or.inl hx⟩;rcases List.mem_or_eq_of_mem_set hf with hf|rfl
 ·exact Or.inl ⟨f,hf,rfl⟩
 ·exact Or.inl ⟨X.flows.getD i Fl.zero,by rw [aN hi];exact I8 hi,rfl⟩
theorem sy {X:Wd} (h:GwMay X) (e:Ev):Goes X (fj X e).1:=by
 unfold fj;by_cases hc:tV X.tab e.slot e.gen≠0
 ·rw [if_pos hc];exact .refl X
 ·rw [if_neg hc];obtain ⟨hf1,hi,_,_⟩:=yt h (Decidable.not_not.1 hc);have hf:gF X e.slot:=⟨hf1,hi⟩;by_cases h3:e.kind=3
  ·rw [if_pos h3];exact (mM h hf [] 7 0).step.goes
  ·rw [if_neg h3];by_cases h2:e.kind=2
   ·rw [if_pos h2];simp only;by_cases hs:(X.flows.getD (eY X e.slot) Fl.zero).serving=true
    ·rw [if_pos hs];exact ss h _
    ·rw [if_neg hs];exact .refl X
   ·rw [if_neg h2];by_cases hs:(X.flows.getD (eY X e.slot) Fl.zero).serving=true
    ·rw [if_pos hs];exact .refl X
    ·rw [if_neg hs];by_cases hg:e.good=true
     ·rw [if_pos hg];have hfm:=h.at_ hi;obtain ⟨q,q1,q2,q3,q4,q5,q6,q7,q8,q9⟩:=h.num hfm;have hs':=pH h hi;have hN:=hs'.noted (b:=(X.flows.getD (eY X e.slot) Fl.zero).backend.toNat) (by omega) false
      have g1:Goes X (bU (iV X (eY X e.slot)) (X.flows.getD (eY X e.slot) Fl.zero).backend.toNat false):=by
       have:=uN hi;exact ⟨this.now,this.fl,this.lv⟩
      exact g1.trans (ss hN _)
     ·rw [if_neg hg];exact (sC h hf [] 3).goes
theorem Bv {L:List Lf} {R:List Rq} {r:Rq} {now drain:Int} {L':List Lf} {R':List Rq} {ans:Int} {nw:Bool} (hd:1≤drain) (hg:oA L R r now drain L' R' ans nw):∀ x∈L',x.state=3→x∈L∨now<x.until_:=by
 intro x hx h3;rcases hg with ⟨q,_,_,rfl,_⟩|⟨hn,⟨_,rfl,_⟩|⟨hl,_,⟨hk,hj,_⟩|⟨hk,hr,_⟩⟩⟩
 ·exact Or.inl hx
 ·exact Or.inl hx
 ·rcases hj with ⟨_,rfl,_⟩|⟨_,_,rfl,_⟩|⟨_,⟨i,_,_,_,rfl⟩,_⟩|⟨_,_,rfl,_⟩
  ·exact Or.inl hx
  ·exact Or.inl hx
  ·rcases List.mem_or_eq_of_mem_set hx with hx|rfl
   ·exact Or.inl hx
   ·exact absurd h3 (by simp [lh])
  ·rcases (kt).1 hx with rfl|hx
   ·exact absurd h3 (by simp [lh])
   ·exact Or.inl hx
 ·rcases hr with ⟨_,rfl,_⟩|⟨_,rfl,_⟩|⟨_,rfl,_⟩|⟨i,_,_,_,rfl,_⟩
  ·exact Or.inl hx
  ·exact Or.inl hx
  ·exact Or.inl hx
  ·rcases List.mem_or_eq_of_mem_set hx with hx|rfl
   ·exact Or.inl hx
   ·exact Or.inr (by simp only [jl];omega)
theorem wP {X:Wd} (h:GwMay X) {e:Ev} {L':List Lf} {R':List Rq} {ans:Int} {nw:Bool} (hg:oA X.lives X.reqs ⟨e.request,fE e.kind,e.backend,e.weight,0⟩ X.now X.cf.drain L' R' ans nw):Goes X (jF X e L' R' ans nw).1:=by
 have hd:=h.cf.1.1;have hl:=Bv (by omega) hg;have g1:∀ rg,Goes X { X with lives:=L',reqs:=R',ring:=rg }:=fun rg=>⟨rfl,fun f hf=>Or.inl ⟨f,hf,rfl⟩,hl⟩;unfold jF;simp only;by_cases h1:nw=false∨ans≠0∨e.kind≠6
 ·rw [if_pos h1];exact g1 X.ring
 ·rw [if_neg h1];by_cases h2:gL X.lives e.backend=1
  ·rw [if_pos h2];exact g1 X.ring
  ·rw [if_neg h2];exact (g1 (bO (dM L'))).trans (uK _ _)
theorem Ft {X:Wd} (h:WdMay X) {key:Nat} (hk:key<4294967296):WdMay (gj X key).1:=h.goes (CG h.gw hk) (rX h.gw key)
theorem zc {X:Wd} (h:WdMay X) (e:Ev):WdMay (fj X e).1:=h.goes (DE h.gw e) (sy h.gw e)
theorem ask_wd {X:Wd} (h:WdMay X) {e:Ev} (he:uy e) {L':List Lf} {R':List Rq} {ans:Int} {nw:Bool} (hg:oA X.lives X.reqs ⟨e.request,fE e.kind,e.backend,e.weight,0⟩ X.now X.cf.drain L' R' ans nw):WdMay (jF X e L' R' ans nw).1:=h.goes (ug h.gw he hg).2.2 (wP h.gw hg)
def jnF (L:List Lf) (r:Rq):List Lf×Int:=
 if ¬ ((0≤r.backend∧r.backend≤11)∧(1≤r.weight∧r.weight≤8)) then (L,2)
 else if aQ (cE r.backend) L<0 then (eo L (nv L r.backend) (lh r),0)
 else if (L.getD (aQ (cE r.backend) L).toNat Lf.zero).state≠4 then (L,7)
 else (L.set (aQ (cE r.backend) L).toNat (lh r),0)
theorem FK (L:List Lf) (r:Rq):xi L r (jnF L r).1 (jnF L r).2:=by
 unfold jnF;by_cases h:(0≤r.backend∧r.backend≤11)∧(1≤r.weight∧r.weight≤8)
 ·rw [if_neg (not_not_intro h)];rcases bJ (cE r.backend) L Lf.zero with ⟨e,_⟩|⟨i,hi,e,_⟩
  ·rw [if_pos (by omega)];exact Or.inr (Or.inr (Or.inr ⟨h,e,rfl,rfl⟩))
  ·rw [if_neg (by omega),e,I6];by_cases h4:(L.getD i Lf.zero).state≠4
   ·rw [if_pos h4];exact Or.inr (Or.inl ⟨h,⟨i,hi,e,h4⟩,rfl,rfl⟩)
   ·rw [if_neg h4];exact Or.inr (Or.inr (Or.inl ⟨h,⟨i,hi,e,Decidable.not_not.1 h4,rfl⟩,rfl⟩))
 ·rw [if_pos h];exact Or.inl ⟨h,rfl,rfl⟩
def rtF (L:List Lf) (r:Rq) (now drain:Int):List Lf×Int:=
 if aQ (cE r.backend) L<0 then (L,8)
 else if (L.getD (aQ (cE r.backend) L).toNat Lf.zero).state=4 then (L,8)
 else if (L.getD (aQ (cE r.backend) L).toNat Lf.zero).state=3 then (L,12)
 else (L.set (aQ (cE r.backend) L).toNat (jl (L.getD (aQ (cE r.backend) L).toNat Lf.zero) r now drain),0)
theorem Fc (L:List Lf) (r:Rq) (now drain:Int):wZ L r now drain (rtF L r now drain).1 (rtF L r now drain).2:=by
 unfold rtF;rcases bJ (cE r.backend) L Lf.zero with ⟨e,_⟩|⟨i,hi,e,_⟩
 ·rw [if_pos (by omega)];exact Or.inl ⟨e,rfl,rfl⟩
 ·rw [if_neg (by omega),e,I6];by_cases h4:(L.getD i Lf.zero).state=4
  ·rw [if_pos h4];exact Or.inr (Or.inl ⟨⟨i,hi,e,h4⟩,rfl,rfl⟩)
  ·rw [if_neg h4];by_cases h3:(L.getD i Lf.zero).state=3
   ·rw [if_pos h3];exact Or.inr (Or.inr (Or.inl ⟨⟨i,hi,e,h3⟩,rfl,rfl⟩))
   ·rw [if_neg h3];exact Or.inr (Or.inr (Or.inr ⟨i,hi,e,⟨h4,h3⟩,rfl,rfl⟩))
structure AkF where
 L:List Lf
 R:List Rq
 ans:Int
 nw:Bool
def By (L:List Lf) (R:List Rq) (r:Rq) (now drain:Int):AkF:=
 if ¬ aQ (jW r.id) R<0 then ⟨L,R,(R.getD (aQ (jW r.id) R).toNat Rq.zero).answer,false⟩
 else if R.length=100 then ⟨L,R,9,false⟩
 else if r.kind=1 then ⟨(jnF L r).1,R++[⟨r.id,1,r.backend,r.weight,(jnF L r).2⟩],(jnF L r).2,true⟩
 else ⟨(rtF L ⟨r.id,2,r.backend,0,r.answer⟩ now drain).1,R++[⟨r.id,2,r.backend,0,(rtF L ⟨r.id,2,r.backend,0,r.answer⟩ now drain).2⟩],(rtF L ⟨r.id,2,r.backend,0,r.answer⟩ now drain).2,true⟩
theorem Gq (L:List Lf) (R:List Rq) (r:Rq) (now drain:Int) (hk:r.kind=1∨r.kind=2):oA L R r now drain (By L R r now drain).L (By L R r now drain).R (By L R r now drain).ans (By L R r now drain).nw:=by
 unfold By;rcases bJ (jW r.id) R Rq.zero with ⟨e,_⟩|⟨i,hi,e,_⟩
 ·rw [if_neg (by omega)];by_cases hl:R.length=100
  ·rw [if_pos hl];exact Or.inr ⟨e,Or.inl ⟨hl,rfl,rfl,rfl,rfl⟩⟩
  ·rw [if_neg hl];by_cases h1:r.kind=1
   ·rw [if_pos h1];exact Or.inr ⟨e,Or.inr ⟨hl,rfl,Or.inl ⟨h1,FK L r,rfl⟩⟩⟩
   ·rw [if_neg h1];exact Or.inr ⟨e,Or.inr ⟨hl,rfl,Or.inr ⟨by omega,Fc L _ now drain,rfl⟩⟩⟩
 ·rw [if_pos (by omega),e,I6];exact Or.inl ⟨i,hi,e,rfl,rfl,rfl,rfl⟩
def reqE (e:Ev):Rq:=⟨e.request,fE e.kind,e.backend,e.weight,0⟩
def wQ (X:Wd) (e:Ev):AkF:=By X.lives X.reqs (reqE e) X.now X.cf.drain
def uh (X:Wd) (e:Ev):Wd×List Out:=jF X e (wQ X e).L (wQ X e).R (wQ X e).ans (wQ X e).nw
theorem pa (X:Wd) {e:Ev} (_:e.kind=5∨e.kind=6):oA X.lives X.reqs ⟨e.request,fE e.kind,e.backend,e.weight,0⟩ X.now X.cf.drain (wQ X e).L (wQ X e).R (wQ X e).ans (wQ X e).nw:=
 Gq X.lives X.reqs (reqE e) X.now X.cf.drain (by unfold reqE fE;simp only;by_cases h:e.kind=6<;>simp [h])
def mP (X:Wd) (e:Ev):Wd×List Out:=
 if e.kind=1 then gj X e.key.toNat else if e.kind=5∨e.kind=6 then uh X e else if e.kind=7 then jc X else fj X e
structure EvMay (X:Wd) (e:Ev):Prop where
 k0:0≤e.key
 k1:e.key≤4294967295
 r0:0≤e.request
 r1:e.request≤1048576
 b0:0≤e.backend
 b1:e.backend≤11
 tk:e.kind=7→X.now<1099511626776
theorem EvMay.ask {X:Wd} {e:Ev} (h:EvMay X e) (hk:e.kind=5∨e.kind=6):uy e:=⟨hk,h.r0,h.r1,h.b0,h.b1⟩
theorem H8 {X:Wd} (h:WdMay X) {e:Ev} (he:EvMay X e):WdMay (mP X e).1:=by
 unfold mP;by_cases h1:e.kind=1
 ·rw [if_pos h1];exact Ft h (by have:=he.k0;have:=he.k1;omega)
 ·rw [if_neg h1];by_cases h2:e.kind=5∨e.kind=6
  ·rw [if_pos h2];exact ask_wd h (he.ask h2) (pa X h2)
  ·rw [if_neg h2];by_cases h3:e.kind=7
   ·rw [if_pos h3];exact (yV h (he.tk h3)).1
   ·rw [if_neg h3];exact zc h e
theorem nc (X:Wd) (b:Int):(bZ X b).1.cf=X.cf:=by
 obtain ⟨L,e,_⟩:=jw X b;rw [e]
theorem pD {X:Wd} {b:Int} {o:Out} (h:o∈(bZ X b).2):o.kind=9:=by
 unfold bZ at h
 cases hl:dt X.lives b with
 | none=>rw [hl] at h;simp at h
 | some x=>
  rw [hl] at h;simp only at h;by_cases hc:x.state=3∧iX X.tab b X.tab.length=[]
  ·rw [if_pos hc] at h;simp at h;rw [h]
  ·rw [if_neg hc] at h;simp at h
theorem qG (X:Wd) (i:Nat) (k y:Int):(gQ X i k y).1.cf=X.cf:=by unfold gQ;rw [nc];rfl
theorem p9 {X:Wd} {i:Nat} {k y:Int} {o:Out} (h:o∈(gQ X i k y).2):o.kind=k∨o.kind=9:=by
 unfold gQ at h;exact Q159
theorem zy (X:Wd) (i:Nat) (why:Int):(eU X i why).1.cf=X.cf:=by
 unfold eU;simp only
 split
 ·rw [qG]
  rfl
 ·split
  ·rw [qG]
   rfl
  ·split
   ·rfl
   ·rw [nc]
    rfl
theorem wu {X:Wd} {i:Nat} {why:Int} {o:Out} (h:o∈(eU X i why).2):o.kind=6∨o.kind=5∨o.kind=9:=by
 unfold eU at h;simp only at h
 split at h
 ·rcases p9 h with h|h
  ·exact Or.inl h
  ·exact Or.inr (Or.inr h)
 ·split at h
  ·rcases p9 h with h|h
   ·exact Or.inl h
   ·exact Or.inr (Or.inr h)
  ·split at h
   ·simp at h;rw [h];exact Or.inr (Or.inl rfl)
   ·rcases List.mem_cons.1 h with rfl|h
    ·exact Or.inr (Or.inl rfl)
    ·exact Or.inr (Or.inr (pD h))
theorem due_cf (P:Wd×List Out) (s:Int):(lX P s).1.cf=P.1.cf:=by
 unfold lX
 split
 ·exact qG _ _ 6 1
 ·exact zy _ _ _
theorem Gb {P:Wd×List Out} {s:Int} {o:Out} (h:o∈(lX P s).2):o∈P.2∨o.kind=6∨o.kind=5∨o.kind=9:=by
 unfold lX at h
 split at h
 ·exact Q121
 ·rcases List.mem_append.1 h with h|h
  ·exact Or.inl h
  ·exact Or.inr (wu h)
theorem cut_cf (P:Wd×List Out) (s:Int):(oL P s).1.cf=P.1.cf:=qG _ _ 6 2
theorem Gf {P:Wd×List Out} {s:Int} {o:Out} (h:o∈(oL P s).2):o∈P.2∨o.kind=6∨o.kind=5∨o.kind=9:=by
 unfold oL at h;exact Q121
theorem kT {α β γ:Type} {f:β→α→β} {g:β→γ} (h:∀ b a,g (f b a)=g b):∀ (L:List α) (b:β),g (L.foldl f b)=g b
 | [],_=>rfl
 | a :: L,b=>by rw [List.foldl_cons,kT h L,h]
theorem mI {α:Type} {f:Wd×List Out→α→Wd×List Out} {p:Out→Prop} (h:∀ P a o,o∈(f P a).2→o∈P.2∨p o):∀ (L:List α) (P:Wd×List Out) (o:Out),o∈(L.foldl f P).2→o∈P.2∨p o
 | [],_,_,ho=>Or.inl ho
 | a :: L,P,o,ho=>by
  rw [List.foldl_cons] at ho;rcases mI h L (f P a) o ho with g|g
  ·exact h P a o g
  ·exact Or.inr g
theorem DL (P:Wd×List Out) (x:Lf):(gb P x).1.cf=P.1.cf:=by
 unfold gb
 split
 ·rfl
 ·exact kT (g:=fun P:Wd×List Out=>P.1.cf) cut_cf _ _
theorem Bk {P:Wd×List Out} {x:Lf} {o:Out} (h:o∈(gb P x).2):o∈P.2∨o.kind=6∨o.kind=5∨o.kind=9:=by
 unfold gb at h
 split at h
 ·exact Or.inl h
 ·exact mI (p:=fun o=>o.kind=6∨o.kind=5∨o.kind=9) (fun P a o h=>Gf h) _ _ _ h
theorem C7 (X:Wd):(iU X).cf=X.cf:=by
 have hf:=lG X;unfold iU;simp only;rw [hf]
 rfl
theorem EX (X:Wd):(jc X).1.cf=X.cf:=by
 unfold jc bV;rw [kT (g:=fun P:Wd×List Out=>P.1.cf) DL,kT (g:=fun P:Wd×List Out=>P.1.cf) due_cf];exact C7 X
theorem uF {X:Wd} {o:Out} (h:o∈(jc X).2):o.kind=6∨o.kind=5∨o.kind=9:=by
 unfold jc at h;rcases mI (p:=fun o=>o.kind=6∨o.kind=5∨o.kind=9) (fun P a o h=>Bk h) _ _ _ h with h|h
 ·unfold bV at h;rcases mI (p:=fun o=>o.kind=6∨o.kind=5∨o.kind=9) (fun P a o h=>Gb h) _ _ _ h with h|h
  ·simp at h
  ·exact h
 ·exact h
theorem Fu (X:Wd) (key:Nat):(gj X key).1.cf=X.cf:=by
 unfold gj
 split
 ·rfl
 ·split<;>rfl
theorem FT (X:Wd) (e:Ev):(fj X e).1.cf=X.cf:=by
 unfold fj
 split
 ·rfl
 ·split
  ·exact qG _ _ 7 0
  ·split
   ·simp only
    split<;>rfl
   ·split
    ·rfl
    ·split
     ·rfl
     ·exact zy _ _ _
theorem vW {X:Wd} {e:Ev} {o:Out} (h:o∈(fj X e).2):o.kind≠1:=by
 unfold fj at h
 split at h
 ·simp at h;rw [h];simp
 ·split at h
  ·rcases p9 h with h|h<;>rw [h]<;>decide
  ·split at h
   ·simp at h;rw [h];simp
   ·split at h
    ·simp at h;rw [h];simp
    ·split at h
     ·simp at h;rw [h];simp
     ·rcases wu h with h|h|h<;>rw [h]<;>decide
theorem ask_cf (X:Wd) (e:Ev):(uh X e).1.cf=X.cf:=by
 unfold uh jF;simp only
 split
 ·rfl
 ·split
  ·rfl
  ·rw [nc]
theorem zE {X:Wd} {e:Ev} {o:Out} (h:o∈(uh X e).2):o.kind=8∨o.kind=9:=by
 unfold uh jF at h;simp only at h
 split at h
 ·simp at h;rw [h];exact Or.inl rfl
 ·split at h
  ·simp at h;rcases h with h|h<;>rw [h]
   ·exact Or.inl rfl
   ·exact Or.inr rfl
  ·exact Q159
theorem H9 (X:Wd) (e:Ev):(mP X e).1.cf=X.cf:=by
 unfold mP
 split
 ·exact Fu _ _
 ·split
  ·exact ask_cf _ _
  ·split
   ·exact EX _
   ·exact FT _ _
def jT (h:Hd):Prop:=0≤h.slot∧h.slot≤39∧0≤h.gen∧h.gen≤1048576
def ja (k:Int):Ev:=⟨1,k,0,0,false,0,0,0⟩
def gY (k:Int) (h:Hd) (g:Bool):Ev:=⟨k,0,h.slot,h.gen,g,0,0,0⟩
def fp (r b wt:Int):Ev:=⟨5,0,0,0,false,r,b,wt⟩
def lk (r b:Int):Ev:=⟨6,0,0,0,false,r,b,0⟩
def gX:Ev:=⟨7,0,0,0,false,0,0,0⟩
theorem Fz {k:Int} (h0:0≤k) (h1:k≤4294967295):jJ (ja k) 0:=by
 refine Or.inr (Or.inr (Or.inr ⟨by simp [ja],?_,?_,rfl⟩))
 ·simp [nR,eG,zN,ja];omega
 ·simp [fV,ja,Ev.zero]
theorem ok_fl {k:Int} (hk:k=2∨k=3) {h:Hd} (hh:jT h):jJ (gY k h false) 0:=by
 obtain ⟨h0,h1,h2,h3⟩:=hh;refine Or.inr (Or.inr (Or.inr ⟨by simp only [gY];omega,?_,?_,rfl⟩))
 ·rcases hk with rfl|rfl<;>simp [nR,eG,zN,gY]<;>omega
 ·rcases hk with rfl|rfl<;>simp [fV,gY,Ev.zero]
theorem ok_ans {h:Hd} (hh:jT h) (g:Bool):jJ (gY 4 h g) 0:=by
 obtain ⟨h0,h1,h2,h3⟩:=hh;refine Or.inr (Or.inr (Or.inr ⟨by simp only [gY];omega,?_,?_,rfl⟩))
 ·simp [nR,eG,zN,gY];omega
 ·simp [fV,gY,Ev.zero]
theorem FA {r b wt:Int} (h0:0≤r) (h1:r≤1048576) (h2:0≤b) (h3:b≤11) (h4:1≤wt) (h5:wt≤8):jJ (fp r b wt) 0:=by
 refine Or.inr (Or.inr (Or.inr ⟨by simp [fp],?_,?_,rfl⟩))
 ·simp [nR,eG,zN,fp];omega
 ·simp [fV,fp,Ev.zero]
theorem ok_ret {r b:Int} (h0:0≤r) (h1:r≤1048576) (h2:0≤b) (h3:b≤11):jJ (lk r b) 0:=by
 refine Or.inr (Or.inr (Or.inr ⟨by simp [lk],?_,?_,rfl⟩))
 ·simp [nR,eG,zN,lk];omega
 ·simp [fV,lk,Ev.zero]
theorem Fy:jJ gX 0:=by
 refine Or.inr (Or.inr (Or.inr ⟨by decide,?_,?_,rfl⟩))
 ·simp [nR,eG,zN,gX]
 ·simp [fV,gX,Ev.zero]
structure EvGood (e:Ev):Prop where
 ok:jJ e 0
 k0:0≤e.key
 k1:e.key≤4294967295
 r0:0≤e.request
 r1:e.request≤1048576
 b0:0≤e.backend
 b1:e.backend≤11
theorem EvGood.may {e:Ev} (h:EvGood e) {X:Wd} (hn:X.now<1099511626776):EvMay X e:=⟨h.k0,h.k1,h.r0,h.r1,h.b0,h.b1,fun _=>hn⟩
theorem Be {k:Int} (h0:0≤k) (h1:k≤4294967295):EvGood (ja k):=⟨Fz h0 h1,h0,h1,Int.le_refl 0,(by decide:(0:Int)≤1048576),Int.le_refl 0,(by decide:(0:Int)≤11)⟩
theorem zv {k:Int} (hk:k=2∨k=3) {h:Hd} (hh:jT h):EvGood (gY k h false):=⟨ok_fl hk hh,Int.le_refl 0,(by decide:(0:Int)≤4294967295),Int.le_refl 0,(by decide:(0:Int)≤1048576),Int.le_refl 0,(by decide:(0:Int)≤11)⟩
theorem DB {h:Hd} (hh:jT h) (g:Bool):EvGood (gY 4 h g):=⟨ok_ans hh g,Int.le_refl 0,(by decide:(0:Int)≤4294967295),Int.le_refl 0,(by decide:(0:Int)≤1048576),Int.le_refl 0,(by decide:(0:Int)≤11)⟩
theorem sw {r b wt:Int} (h0:0≤r) (h1:r≤1048576) (h2:0≤b) (h3:b≤11) (h4:1≤wt) (h5:wt≤8):EvGood (fp r b wt):=⟨FA h0 h1 h2 h3 h4 h5,Int.le_refl 0,(by decide:(0:Int)≤4294967295),h0,h1,h2,h3⟩
theorem DA {r b:Int} (h0:0≤r) (h1:r≤1048576) (h2:0≤b) (h3:b≤11):EvGood (lk r b):=⟨ok_ret h0 h1 h2 h3,Int.le_refl 0,(by decide:(0:Int)≤4294967295),h0,h1,h2,h3⟩
theorem kR:EvGood gX:=⟨Fy,by decide,by decide,by decide,by decide,by decide,by decide⟩
def pk (n m:Int):Int:=(if n<0 then -(n+1) else n) % m
theorem cU (n:Int) {m:Int} (h:0<m):0≤pk n m∧pk n m<m:=by
 unfold pk;exact ⟨Int.emod_nonneg _ (by omega),Int.emod_lt_of_pos _ h⟩
structure Dd where
 kind:Int
 a:Int
 b:Int
 c:Int
def Ey (G:List Hd) (d:Dd):Hd:=if 0<G.length∧0<pk d.c 9 then G.getD (G.length - 1 - (pk d.a (min G.length 8:Nat)).toNat) ⟨0,0⟩ else ⟨pk d.a 8,pk d.b 3⟩
def GZ (G:List Hd) (d:Dd):Ev:=
 if pk d.kind 20<6 then ja (pk d.a 100)
 else if pk d.kind 20=6 then gY 2 (Ey G d) false
 else if pk d.kind 20=7 then gY 3 (Ey G d) false
 else if pk d.kind 20<12 then gY 4 (Ey G d) (pk d.b 2 == 0)
 else if pk d.kind 20<14 then fp (pk d.a 30) (pk d.b 5) (1+pk d.c 8)
 else if pk d.kind 20=14 then lk (pk d.a 30) (pk d.b 5)
 else gX
theorem FR {G:List Hd} (h:∀ x∈G,jT x) (d:Dd):jT (Ey G d):=by
 unfold Ey;by_cases hc:0<G.length∧0<pk d.c 9
 ·rw [if_pos hc];have hi:G.length - 1 - (pk d.a (min G.length 8:Nat)).toNat<G.length:=by omega
  rw [aN hi];exact h _ (I8 hi)
 ·rw [if_neg hc];have h1:=cU d.a (m:=8) (by decide);have h2:=cU d.b (m:=3) (by decide);unfold jT;simp only;omega
theorem qF {G:List Hd} (h:∀ x∈G,jT x) (d:Dd):EvGood (GZ G d):=by
 have hh:=FR h d;have a1:=cU d.a (m:=100) (by decide);have a2:=cU d.a (m:=30) (by decide);have b1:=cU d.b (m:=5) (by decide);have c1:=cU d.c (m:=8) (by decide);unfold GZ
 split
 ·exact Be a1.1 (by omega)
 ·split
  ·exact zv (Or.inl rfl) hh
  ·split
   ·exact zv (Or.inr rfl) hh
   ·split
    ·exact DB hh _
    ·split
     ·exact sw a2.1 (by omega) b1.1 (by omega) (by omega) (by omega)
     ·split
      ·exact DA a2.1 (by omega) b1.1 (by omega)
      ·exact kR
structure Stp where
 ev:Ev
 be:Wd
 af:Wd
 out:List Out
structure lA where
 steps:List Stp
 last:Wd
 given:List Hd
def nJ (O:List Out):List Hd:=(O.filter fun o=>o.kind == 1).map fun o=>⟨o.slot,o.gen⟩
def sD (p:lA) (e:Ev):lA:=⟨p.steps++[⟨e,p.last,(mP p.last e).1,(mP p.last e).2⟩],(mP p.last e).1,p.given++nJ (mP p.last e).2⟩
def wD (p:lA) (d:Dd):lA:=sD p (GZ p.given d)
def begP (X:Wd):lA:=sD (sD (sD (sD ⟨[],X,[]⟩ (fp 1000 0 2)) (fp 1001 1 3)) (fp 1002 2 4)) gX
def iI (X:Wd) (L:List Dd) (most:Nat):lA:=(L.take most).foldl wD (begP X)
structure zH (c:Cf) (p:lA):Prop where
 wd:WdMay p.last
 cf:p.last.cf=c
 gi:∀ h∈p.given,jT h
 st:∀ s∈p.steps,WdMay s.be∧WdMay s.af∧EvGood s.ev∧EvMay s.be s.ev∧s.af=(mP s.be s.ev).1∧s.out=(mP s.be s.ev).2∧s.be.cf=c∧s.af.cf=c
 nw:p.last.now≤p.steps.length
theorem Ee {X:Wd} (h:GwMay X) {key:Nat}:∀ x∈nJ (gj X key).2,jT x:=by
 intro x hx;unfold nJ gj at hx
 split at hx
 ·simp at hx
 ·split at hx
  ·simp at hx
  ·rename_i h1 _
   rcases bJ fh X.tab Sl.zero with ⟨e,_⟩|⟨i,hi,e,_⟩
   ·omega
   ·simp [e] at hx;subst hx;have hs:=ni h.tb hi;have h40:=h.tb.2.1
    have hg:0≤(X.tab.getD i Sl.zero).gen∧(X.tab.getD i Sl.zero).gen≤1048576:=by
     unfold dw at hs
     split at hs<;>omega
    unfold jT;simp only [List.getD] at hg;simp only;omega
theorem kV {O:List Out} (h:∀ o∈O,o.kind≠1):nJ O=[]:=by
 unfold nJ;rw [List.filter_eq_nil_iff.2 (fun o ho=>by simpa using h o ho)]
 rfl
theorem acc_do {X:Wd} (h:GwMay X) (e:Ev):∀ x∈nJ (mP X e).2,jT x:=by
 intro x hx;unfold mP at hx
 split at hx
 ·exact Ee h x hx
 ·split at hx
  ·rw [kV (fun o ho=>by rcases zE ho with g|g<;>rw [g]<;>decide)] at hx;simp at hx
  ·split at hx
   ·rw [kV (fun o ho=>by rcases uF ho with g|g|g<;>rw [g]<;>decide)] at hx;simp at hx
   ·rw [kV (fun o ho=>vW ho)] at hx;simp at hx
theorem do_now {X:Wd} (h:WdMay X) {e:Ev} (he:EvMay X e):(mP X e).1.now=if e.kind=7 then X.now+1 else X.now:=by
 unfold mP
 split
 ·rename_i h1
  rw [if_neg (by omega)];exact (rX h.gw _).now
 ·split
  ·rename_i h1
   rw [if_neg (by omega)];exact (wP h.gw (pa X h1)).now
  ·split
   ·rename_i h1
    exact (yV h (he.tk h1)).2
   ·rename_i h1
    exact (sy h.gw e).now
theorem doP_ok {c:Cf} {p:lA} (h:zH c p) {e:Ev} (he:EvGood e) (hl:p.steps.length<1000000):zH c (sD p e):=by
 have hm:EvMay p.last e:=he.may (by have:=h.nw;omega);have hw:=H8 h.wd hm;have hc:=H9 p.last e;refine ⟨hw,hc.trans h.cf,fun x hx=>?_,fun s hs=>?_,?_⟩
 ·rcases List.mem_append.1 hx with hx|hx
  ·exact h.gi x hx
  ·exact acc_do h.wd.gw e x hx
 ·rcases List.mem_append.1 hs with hs|hs
  ·exact h.st s hs
  ·simp only [List.mem_singleton] at hs;subst hs;exact ⟨h.wd,hw,he,hm,rfl,rfl,h.cf,hc.trans h.cf⟩
 ·have h1:=do_now h.wd hm;have h2:=h.nw;show (mP p.last e).1.now≤((p.steps++[_]).length:Nat)
  rw [h1,I5];simp only [List.length_singleton]
  split<;>omega
def nj (L:List Lf) (k:Nat):List Sp:=bO (dM (L.take k))
theorem CR:dM []=List.replicate 12 0:=by decide
theorem Ci (L:List Lf):nj L 0=[]:=by
 unfold nj;rw [List.take_zero,CR];exact List.Perm.eq_nil ((fe _).trans (List.Perm.of_eq (by decide)))
theorem CV (A B:List Lf) (b:Int):dt (A++B) b=(dt A b).or (dt B b):=List.find?_append
theorem sg {L:List Lf} (hs:L.Pairwise fun a b=>a.backend<b.backend) {k:Nat} (hk:k<L.length):dt (L.take k) (L.getD k Lf.zero).backend=none:=by
 refine List.find?_eq_none.2 fun y hy=>?_;obtain ⟨j,hj,rfl⟩:=List.mem_iff_getElem.1 hy;rw [Ib] at hj;have:=List.pairwise_iff_getElem.1 hs j k (by omega) hk (by omega);rw [aN hk,List.getElem_take];simp [cE];omega
def wtA (x:Lf):Nat:=if x.state=2 then x.weight.toNat else 0
theorem qq {L:List Lf} (hs:L.Pairwise fun a b=>a.backend<b.backend) {k:Nat} (hk:k<L.length) (h0:0≤(L.getD k Lf.zero).backend) (h1:(L.getD k Lf.zero).backend≤11):(dM (L.take k)).getD (L.getD k Lf.zero).backend.toNat 0=0:=by
 rw [ff _ (by omega),Int.toNat_of_nonneg h0,sg hs hk]
theorem se {L:List Lf} (hs:L.Pairwise fun a b=>a.backend<b.backend) {k:Nat} (hk:k<L.length) (h0:0≤(L.getD k Lf.zero).backend) (h1:(L.getD k Lf.zero).backend≤11):dM (L.take (k+1))=(dM (L.take k)).set (L.getD k Lf.zero).backend.toNat (wtA (L.getD k Lf.zero)):=by
 have hn:=sg hs hk;have e:L.take (k+1)=L.take k++[L.getD k Lf.zero]:=by rw [I3 hk,aN hk]
 rw [e];generalize L.getD k Lf.zero=x at h0 h1 hn;refine List.ext_getElem (by simp [cB]) fun b hb1 hb2=>?_
 have hb:b<12:=by rw [cB] at hb1;exact hb1
 rw [← aN hb1 0,← aN hb2 0,ff _ hb,cO (by rw [cB];omega),ff _ hb,CV,gC];by_cases hx:x.backend=(b:Int)
 ·rw [if_pos hx,if_pos (by omega),← hx,hn];simp only [Option.none_or,wtA]
 ·rw [if_neg hx,if_neg (by omega)];simp [dt]
theorem CS {L:List Lf} (h:∀ x∈L,x.weight≤8) (b:Nat):(dM L).getD b 0≤8:=by
 by_cases hb:b<12
 ·rw [ff L hb]
  cases hl:dt L (b:Nat) with
  | none=>simp
  | some x=>
   have:=h x (dz hl).1;simp only
   split<;>omega
 ·exact Q129
theorem Ch {L:List Lf} {R:List Rq} (h:bF L R) (k:Nat):RgMay (nj L k):=pJ (cB _) (CS fun _ hx=>(eO h (List.mem_of_mem_take hx)).2.2.2.1)
theorem rl_add {L:List Lf} {R:List Rq} (h:bF L R) {k:Nat} (hk:k<L.length) (hs:(L.getD k Lf.zero).state=2):yL (nj L k) (L.getD k Lf.zero).backend (L.getD k Lf.zero).weight (nj L (k+1)) 0:=by
 have hm:L.getD k Lf.zero∈L:=by rw [aN hk];exact I8 hk
 have hb:=eO h hm;have h0:=hb.1;have h1:=hb.2.1;have h2:=hb.2.2.1;have h3:=hb.2.2.2.1;refine Or.inr (Or.inr ⟨(L.getD k Lf.zero).backend.toNat,(L.getD k Lf.zero).weight.toNat,Ch h k,by omega,by omega,by omega,by omega,by omega,Or.inr ⟨?_,?_,rfl⟩⟩)
 ·unfold nj;rw [iE (cB _)];exact qq (cG h) hk h0 h1
 ·unfold nj;rw [iE (cB _),se (cG h) hk h0 h1];unfold wtA;rw [if_pos hs]
theorem Ff {L:List Lf} {R:List Rq} (h:bF L R) {k:Nat} (hk:k<L.length) (hs:(L.getD k Lf.zero).state≠2):nj L (k+1)=nj L k:=by
 have hm:L.getD k Lf.zero∈L:=by rw [aN hk];exact I8 hk
 have hb:=eO h hm;have h0:=hb.1;have h1:=hb.2.1;unfold nj;rw [se (cG h) hk h0 h1];have hz:=qq (cG h) hk h0 h1;have e:wtA (L.getD k Lf.zero)=0:=if_neg hs;rw [e]
 congr 1
 exact rL (d:=0) (by rw [cB];omega) hz
theorem rl_all {X:Wd} (h:GwMay X):nj X.lives X.lives.length=X.ring:=by unfold nj;rw [List.take_length];exact h.rg.symm
def uM (T:List Sl) (b:Int):List Int:=(iX T b T.length).map Hd.slot
theorem Gg {X:Wd} (h:GwMay X) {x:Lf} (hx:x∈X.lives) (h3:x.state=3):(gZ X.tab X.tab.length).getD x.backend.toNat 0≠0:=by
 have hb:=eO h.bk hx;have h0:=hb.1;have h1:=hb.2.1;obtain ⟨f,hf,hfb⟩:=h.dr x hx h3
 have hm:f.slot∈uM X.tab x.backend:=by
  have h2:=h.fl f hf;have s0:=h2.s0;have s1:=h2.s1;exact Ik.2 ⟨⟨f.slot.toNat,(X.tab.getD f.slot.toNat Sl.zero).gen⟩,iW.2 ⟨f.slot.toNat,by omega,by rw [h2.sl],by rw [h2.sl];exact hfb,rfl⟩,by simp only;omega⟩
 have hl:(gZ X.tab X.tab.length).getD x.backend.toNat 0=((iX X.tab x.backend X.tab.length).length:Int):=by
  rw [aN (by rw [gR];omega)];simp only [gZ,List.getElem_map,List.getElem_range];rw [Int.toNat_of_nonneg h0]
 rw [hl];intro e;have e':iX X.tab x.backend X.tab.length=[]:=List.length_eq_zero_iff.1 (by omega);unfold uM at hm;rw [e'] at hm;simp at hm
def dy (c:Cf):Wd:=⟨c,0,fS c.flows.toNat,[],[],[],[],List.replicate 12 Ht.zero,c.bb*c.bd,0,List.replicate 25 []⟩
theorem zU:bK 0 []=List.replicate 25 []:=by
 refine List.ext_getElem (by rw [cV];simp) fun i h1 h2=>?_;rw [cV] at h1;rw [← aN (by rw [cV];exact h1) [],dQ 0 [] h1,List.getElem_replicate];exact List.Perm.eq_nil (di _)
theorem Cj:bO (dM [])=[]:=by
 have:=Ci [];unfold nj at this;simpa using this
theorem beg_wd {c:Cf} (h:ju c):WdMay (dy c):=by
 have hf:1≤c.flows∧c.flows≤40:=⟨h.1.2.2.1,h.1.2.2.2.1⟩;have hz:∀ s∈fS c.flows.toNat,s=Sl.zero:=fun s hs=>List.eq_of_mem_replicate hs;have hl:(fS c.flows.toNat).length=c.flows.toNat:=List.length_replicate
 have hh:∀ i,i<12→(dy c).health.getD i Ht.zero=Ht.zero:=fun i hi=>by
  show (List.replicate 12 Ht.zero).getD i Ht.zero=Ht.zero
  rw [aN (by simpa using hi),List.getElem_replicate]
 refine ⟨{ cf:=h,n0:=Int.le_refl 0,n1:=(by decide:(0:Int)≤1099511626776),tb:=?_,tl:=?_,bk:=?_,hl:=by simp [dy],ht:=fun i hi=>?_,ho:=fun i hi=>?_,t0:=?_,t1:=Int.le_refl _,rg:=Cj.symm,wn:=rfl,wl:=zU.symm,so:=List.Pairwise.nil,fl:=fun f hf=>(by simp [dy] at hf),us:=fun s hs hu=>?_,dr:=fun x hx=>(by simp [dy] at hx),si:=fun x hx=>(by simp [dy] at hx) },fun f hf=>(by simp [dy] at hf),fun x hx=>(by simp [dy] at hx)⟩
 ·refine ⟨by show 1≤(fS c.flows.toNat).length;rw [hl];omega,by show (fS c.flows.toNat).length≤40;rw [hl];omega,fun s hs=>?_⟩;rw [hz s hs];simp [dw,Sl.zero]
 ·show ((fS c.flows.toNat).length:Int)=c.flows
  rw [hl];omega
 ·exact ⟨by simp [dy],by simp [dy],fun i hi=>by simp [dy] at hi,fun x hx=>by simp [dy] at hx,by simp [dy,gP]⟩
 ·rw [hh i hi];exact Du h.2.2 (Int.le_refl 0) (by decide:(0:Int)≤1099511627776) (zu (by have:=h.2.2.1;show 0≤c.ww;omega))
 ·rw [hh i hi];intro g;exact absurd g (by decide)
 ·show 0≤c.bb*c.bd
  have:=h.2.1;unfold i8 at this;exact Int.mul_nonneg (by omega) (by omega)
 ·have:(dy c).tab.getD s Sl.zero=Sl.zero:=by
   show (fS c.flows.toNat).getD s Sl.zero=Sl.zero
   rw [aN (show s<(fS c.flows.toNat).length from hs)];exact hz _ (I8 _)
  rw [this] at hu;exact absurd hu (by decide)
def EO (T:List Sl) (k:Nat):Nat:=((T.take k).filter Sl.used).length
theorem BY {T:List Sl} {k:Nat} (h:k<T.length):EO T (k+1)=EO T k+(if (T.getD k Sl.zero).used=true then 1 else 0):=by
 unfold EO;rw [I3 h,List.filter_append,I5,aN h]
 cases hu:T[k].used<;>simp [hu]
theorem usN_le (T:List Sl) (k:Nat):EO T k≤T.length:=by
 unfold EO;exact Ii (List.length_filter_le _ _) (by rw [Ib];omega)
theorem yb {α:Type} (L:List α) (d:α):L=(List.range L.length).map fun i=>L.getD i d:=by
 refine List.ext_getElem (by simp) fun i h1 h2=>?_;rw [List.getElem_map,List.getElem_range,aN h1]
theorem BX {X:Wd} (h:GwMay X):(X.tab.filter Sl.used).length=X.flows.length:=by
 have e:(X.tab.filter Sl.used).length=((List.range X.tab.length).filter fun i=>(X.tab.getD i Sl.zero).used).length:=by
  conv=>lhs;rw [yb X.tab Sl.zero]
  rw [List.filter_map,I2]
  rfl
 have hp:((List.range X.tab.length).filter fun i=>(X.tab.getD i Sl.zero).used).Perm (X.flows.map fun f=>f.slot.toNat):=by
  refine (List.perm_ext_iff_of_nodup (List.nodup_range.sublist List.filter_sublist) ?_).2 fun i=>?_
  ·exact Q115
  ·rw [List.mem_filter,List.mem_range,Ik];constructor
   ·rintro ⟨hi,hu⟩;obtain ⟨f,hf,hs⟩:=h.us i hi hu;exact ⟨f,hf,by rw [hs];simp⟩
   ·rintro ⟨f,hf,rfl⟩;have h1:=h.fl f hf;have h0:=h1.s0;have h2:=h1.s1;exact ⟨by omega,by rw [h1.sl]⟩
 rw [e,hp.length_eq,I2]
theorem EN {X:Wd} (h:GwMay X):EO X.tab X.tab.length=X.flows.length:=by
 unfold EO;rw [List.take_length];exact BX h
def Ex (LL:List (List Tm)) (k:Nat):Nat:=(LL.take k).flatten.length
theorem CU {LL:List (List Tm)} {k:Nat} (h:k<LL.length):Ex LL (k+1)=Ex LL k+(LL.getD k []).length:=by
 unfold Ex;rw [I3 h,Ie,I5,aN h];simp
theorem sX {X:Wd} (h:WdMay X):X.lists.flatten.length=X.flows.length:=by
 rw [h.gw.whp.length_eq];unfold ej;rw [I2,List.filter_eq_self.2 fun f hf=>by simpa using h.du f hf]
theorem gO {X:Wd} (h:GwMay X):X.lists.length=25:=h.wh.2.2.1
theorem FE {X:Wd} (h:WdMay X):Ex X.lists 25=X.flows.length:=by
 unfold Ex;rw [← gO h.gw,List.take_length];exact sX h
theorem lnN_le (LL:List (List Tm)) (k:Nat):Ex LL k≤LL.flatten.length:=by
 unfold Ex
 conv=>rhs;rw [← Ig k LL,Ie,I5]
 omega
theorem tm_any {X:Wd} (h:WdMay X) {f:Fl} (hf:f∈X.flows):(List.range 25).any (fun i=>decide ((⟨f.due,f.slot⟩:Tm)∈X.lists.getD i []))=true:=by
 have hm:(⟨f.due,f.slot⟩:Tm)∈X.lists.flatten:=by
  rw [h.gw.whp.mem_iff];exact Ik.2 ⟨f,List.mem_filter.2 ⟨hf,by simpa using h.du f hf⟩,rfl⟩
 obtain ⟨l,hl,ht⟩:=List.mem_flatten.1 hm;obtain ⟨i,hi,rfl⟩:=qp hl [];rw [List.any_eq_true];refine ⟨i,List.mem_range.2 (by have:=gO h.gw;omega),?_⟩;simpa using ht
def yz (F:List Fl) (k:Nat):Int:=if k=0 then -1 else (F.getD (k - 1) Fl.zero).slot
theorem E4 (F:List Fl):yz F 0=-1:=rfl
theorem yy (F:List Fl) (k:Nat):yz F (k+1)=(F.getD k Fl.zero).slot:=by simp [yz]
theorem Gn {X:Wd} (h:GwMay X) {k:Nat} (hk:k<X.flows.length):yz X.flows k<(X.flows.getD k Fl.zero).slot:=by
 cases k with
 | zero=>
  have:=(h.fl _ (h.at_ hk)).s0;rw [E4];omega
 | succ j=>
  rw [yy,aN (by omega),aN hk];exact List.pairwise_iff_getElem.1 h.so j (j+1) (by omega) hk (by omega)
theorem Gp {X:Wd} (h:GwMay X) {k:Nat} (hk:k≤X.flows.length):-1≤yz X.flows k:=by
 cases k with
 | zero=>rw [E4];omega
 | succ j=>
  rw [yy];have:=(h.fl _ (h.at_ (show j<X.flows.length by omega))).s0;omega
theorem uV {p:Nat} {w:World} {X:Wd} {V:Vs} (h:GR p w X V) (hm:WdMay X) :
  Calls Tryz.prog 46 #[.pointer (some ⟨p,0,none⟩)] w fun e w'=>e=.returned (.bool true)∧Below w.heap.size w w':=by
 have HR:=Hm h
 have HX:=Hm hm
 have hp:=h.2.2.2.1
 have x17:=h.c 17 (v:=V.t) rfl
 have x18:=h.c 18 (v:=V.f) rfl
 have x25:=h.c 25 (v:=V.w) rfl
 have x8:=h.c 8 (v:=.int .i64 X.cf.retries) rfl
 obtain ⟨aT,cT,eT,_,_,_,pT⟩:=aK Sl.zero h.1.ta.1
 obtain ⟨aF,cF,eF,_,_,_,pF⟩:=aK Fl.zero h.2.1
 obtain ⟨VL,hv1,hv2,hv3⟩:=h.1.wh
 obtain ⟨aL,cL,eL,_,_,_,pL⟩:=aK undef hv2.1
 rw [hv1,gO hm.gw] at eL
 rw [eT] at x17
 rw [eF] at x18
 rw [eL] at x25
 have RT:=Hm (show aI w 4 (.slice aT X.tab.length cT) (X.tab.map Sl.cells) by have:=h.1.ta.1;rw [eT] at this;exact this)
 have RL:=Hm (show aI w 1 (.slice aL 25 cL) (VL.map fun x=>[x]) by have:=hv2.1;rw [eL] at this;exact this)
 have Y:=Hm (And.intro x17 (And.intro x18 (And.intro x25 x8)))
 have PT:=Hm pT
 have PF:=Hm pF
 have PL:=Hm pL
 have HV:=Hm (And.intro hv1 hv3)
 have n40:=hm.gw.tb.2.1
 have f40:=hm.gw.len
 have HU:=Hm (EN hm.gw)
 have HN:=Hm (FE hm)
 have keep:∀ wr,Below w.heap.size w wr→GR p wr X V:=fun wr hb=>fM h hb
 have HK:=Hm keep
 clear h hm eT eF eL hv1 hv2 hv3 pT pF pL keep
 go_enter Tryz.func46,Tryz.ntmps46
 go_wp2_with fail
 go_loopw [3,23] (fun u i wr=>∃ k:Nat,k≤X.tab.length∧i=.int .i64 k∧u=.int .i64 (EO X.tab k:Nat)∧Below w.heap.size w wr) (fun _ i _=>X.tab.length - (intOf i).toNat)
 case atStart=>exact ⟨0,Hx _,rfl,by simp [EO],Hn _ _⟩
 case round=>
  obtain ⟨k,hk,rfl,rfl,hbel⟩:=hrel;rcases (show k<X.tab.length∨k=X.tab.length by omega) with hlt|rfl
  ·have hlt':(k:Int)<(X.tab.length:Int):=by omega
   have k0:(0:Int)≤(k:Int):=by omega
   have hus:=usN_le X.tab k;have hst:=BY hlt;obtain ⟨b1,o1,rfl,hb1,q1⟩:=PT.out (by intro e;rw [e] at hlt;simp at hlt);have a0:=(hbel.cell (p:=⟨b1,o1+k*4+0,none⟩) hb1).trans (q1 k 0 hlt (by omega));have a1:=(hbel.cell (p:=⟨b1,o1+k*4+1,none⟩) hb1).trans (q1 k 1 hlt (by omega));have a2:=(hbel.cell (p:=⟨b1,o1+k*4+2,none⟩) hb1).trans (q1 k 2 hlt (by omega));have a3:=(hbel.cell (p:=⟨b1,o1+k*4+3,none⟩) hb1).trans (q1 k 3 hlt (by omega));have HB:=Hm hbel;have hz:=hbel.size;generalize X.tab.getD k Sl.zero=s at a0 a1 a2 a3 hst;obtain ⟨s0,s1,s2,s3⟩:=s;simp only [Sl.cells,Hy,Hz,Nat.add_zero] at a0 a1 a2 a3 hst;clear q1 hbel
   cases s1 with
   | true=>
    rw [if_pos rfl] at hst;have HS:=Hm hst;clear hst;go_wp2;go_roundw
    case rel=>exact ⟨k+1,by omega,by go_num,by rw [HS.out];go_num,HB.out.alloc hz _⟩
    case measure=>simp [intOf];omega
   | false=>
    rw [if_neg (by simp)] at hst;have HS:=Hm hst;clear hst;go_wp2;go_roundw
    case rel=>exact ⟨k+1,by omega,by go_num,by rw [HS.out];rfl,HB.out.alloc hz _⟩
    case measure=>simp [intOf];omega
  ·have hge:¬ (X.tab.length:Int)<(X.tab.length:Int):=by omega
   rw [HU.out];have x25:=ah hbel Y.out.2.2.1 hp;have x18:=ah hbel Y.out.2.1 hp;have HB:=Hm hbel;have hz:=hbel.size;clear hbel;go_wp2_with fail;go_loopw [6,39] (fun u i wr=>∃ k:Nat,k≤25∧i=.int .i64 k∧u=.int .i64 (Ex X.lists k:Nat)∧Below w.heap.size w wr) (fun _ i _=>25 - (intOf i).toNat)
   case atStart=>exact ⟨0,Hx _,rfl,by simp [Ex],HB.out⟩
   case round=>
    obtain ⟨k,hk,rfl,rfl,hbel⟩:=hrel;rcases (show k<25∨k=25 by omega) with hlt|rfl
    ·have hlt':(k:Int)<25:=by omega
     have k0:(0:Int)≤(k:Int):=by omega
     have hL25:=gO HX.out.gw;have hlt2:k<X.lists.length:=by omega
     have hst:=CU hlt2;have hle:=lnN_le X.lists (k+1);have hfl:=sX HX.out;obtain ⟨b1,o1,rfl,hb1,q1⟩:=PL.out (by intro e;have:=HV.out.1;rw [e] at this;simp at this;omega);have a0:=(hbel.cell (p:=⟨b1,o1+k*1+0,none⟩) hb1).trans (q1 k 0 (by rw [HV.out.1];exact hlt2) (by omega));have hrow:=(HV.out.2 k hlt2).1;obtain ⟨vv,hvv⟩:∃ vv,vv=VL.getD k undef:=⟨_,rfl⟩;obtain ⟨ll,hll⟩:∃ ll,ll=X.lists.getD k []:=⟨_,rfl⟩;rw [← hll] at hst hrow;rw [← hvv] at hrow a0;obtain ⟨av,cv,rfl,_⟩:=aq hrow;simp only [Hy,Nat.add_zero,Nat.mul_one] at a0;have HS:=Hm hst;have HB:=Hm hbel;have hz:=hbel.size;have hsm:Ex X.lists k+ll.length≤40:=by omega
     clear hst hle hfl hL25 hlt2 q1 hrow hvv hll hbel;go_wp2;go_roundw
     case rel=>exact ⟨k+1,by omega,by go_num,by rw [HS.out];go_num,HB.out⟩
     case measure=>simp [intOf];omega
    ·have hge:¬ ((25:Nat):Int)<25:=by omega
     rw [HN.out];have x18:=ah hbel Y.out.2.1 hp
     have hp1:p<wr.heap.size:=by have:=hbel.size;omega
     have HB:=Hm hbel;have hz:=hbel.size;clear hbel;go_wp2_with fail;go_loopw [9,72] (fun u i wr=>∃ k:Nat,k≤X.flows.length∧i=.int .i64 k∧u=.int .i64 (yz X.flows k)∧Below w.heap.size w wr) (fun _ i _=>X.flows.length - (intOf i).toNat)
     case atStart=>exact ⟨0,Hx _,rfl,rfl,HB.out⟩
     case round=>
      obtain ⟨k,hk,rfl,rfl,hbel⟩:=hrel;rcases (show k<X.flows.length∨k=X.flows.length by omega) with hlt|rfl
      ·have hlt':(k:Int)<(X.flows.length:Int):=by omega
       have k0:(0:Int)≤(k:Int):=by omega
       obtain ⟨b1,o1,rfl,hb1,q1⟩:=PF.out (by intro e;rw [e] at hlt;simp at hlt);have hbf:=Gn HX.out.gw hlt;have hlo:=Gp HX.out.gw hk;have hsu:=yy X.flows k;have hfm:=HX.out.gw.at_ hlt;have hff:=HX.out.gw.fl _ hfm;have hget:=HX.out.gw.get hfm;have hany:=tm_any HX.out hfm;have hr0:=hff.r0;have hr1:=hff.r1;have hst:=hff.st;obtain ⟨_,_,_,_,n1,n2,n3,n4,n5,n6⟩:=HX.out.gw.num hfm;have a0:=(hbel.cell (p:=⟨b1,o1+k*7+0,none⟩) hb1).trans (q1 k 0 hlt (by omega));have a1:=(hbel.cell (p:=⟨b1,o1+k*7+1,none⟩) hb1).trans (q1 k 1 hlt (by omega));have a2:=(hbel.cell (p:=⟨b1,o1+k*7+2,none⟩) hb1).trans (q1 k 2 hlt (by omega));have a3:=(hbel.cell (p:=⟨b1,o1+k*7+3,none⟩) hb1).trans (q1 k 3 hlt (by omega));have a4:=(hbel.cell (p:=⟨b1,o1+k*7+4,none⟩) hb1).trans (q1 k 4 hlt (by omega));have a5:=(hbel.cell (p:=⟨b1,o1+k*7+5,none⟩) hb1).trans (q1 k 5 hlt (by omega));have a6:=(hbel.cell (p:=⟨b1,o1+k*7+6,none⟩) hb1).trans (q1 k 6 hlt (by omega));obtain ⟨f,hf⟩:∃ f,f=X.flows.getD k Fl.zero:=⟨_,rfl⟩;rw [← hf] at a0 a1 a2 a3 a4 a5 a6 hbf hsu hget hany hr0 hr1 hst n1 n2 n3 n4 n5 n6;obtain ⟨f0,f1,f2,f3,f4,f5,f6⟩:=f;simp only [Fl.cells,Hy,Hz,Nat.add_zero] at a0 a1 a2 a3 a4 a5 a6 hbf hsu hget hany hr0 hr1 hst n1 n2 n3 n4 n5 n6;have HSu:=Hm hsu;have HGe:=Hm hget;have HAn:=Hm hany;have HSt:=Hm hst;have HBz:=Hm hbel;have hz:=hbel.size;have hp1:p<wr.heap.size:=by omega
       clear hsu hget hany hst hff hfm hf q1 hbel;go_wp2_with fail;refine aY _ (fun wb hwb=>?_)
       have bwb:Below w.heap.size w wb:=by rw [hwb];exact HBz.out.alloc hz _
       obtain ⟨bf,hbfe⟩:∃ bf,bf=wr.heap.size:=⟨_,rfl⟩
       have hbb:wb.heap[bf]?=some (.cells #[.int .i64 f0,.int .i64 f1,.int .i64 f2,.int .i64 f3,.bool f4,.int .i64 f5,.int .i64 f6] 98 (0,0)):=by rw [hwb];exact az _ hbfe
       have lbf:=lt_of_block hbb
       have hpb:p<wb.heap.size:=by rw [hwb];simp;omega
       have hbp:bf≠p:=by omega
       have hpn:bf≠p:=hbp;have e0:wb.cell? ⟨bf,0,none⟩=some (.int .i64 f0):=ae hbb 0;have e1:wb.cell? ⟨bf,1,none⟩=some (.int .i64 f1):=ae hbb 1;have x17:=ah bwb Y.out.1 hp;have HBb:=Hm (And.intro bwb hbb);rw [← hbfe];clear hwb hbfe bwb hbb a0 a1 a2 a3 a4 a5 a6 x18;have HTb:=Hm (au RT.out HBb.out.1);refine GW (P:=?jP1) (F:=fun nb wz=>Below wb.heap.size wb wz∧wz.heap[nb]?=some (.cells #[.int .i64 f1,.bool true,.int .i64 f2,.int .i64 f3] 143 (0,0))∧wb.heap.size≤nb) (fun key=>?jm1) ?jr1
       case jm1=>
        refine Zr (fun w':World=>w'.cell? ⟨p,17,none⟩=some (.slice aT X.tab.length cT)∧w'.cell? ⟨bf,0,none⟩=some (.int .i64 f0)∧w'.cell? ⟨bf,1,none⟩=some (.int .i64 f1)) (fun hHeld=>?_);refine eP 0 ?_;refine df 4 ?_;refine Zt 6 ?_;refine Z2 7 11 (fun K hK=>?_) (fun K hK=>?_);(focus (go_simp;(go_at_call 76;refine (fW X.tab f0 f1 ⟨f1,true,f2,f3⟩ 0 _ _ (au HTb.out Zb) HGe.out).mono ?_;rintro e w2 ⟨rfl,hb2⟩;have hz2:=hb2.size;(try simp at hz2);(try (have bxb:=aj hb2 (cJ wb _) (dL wb _);have bx0:w2.cell? ⟨wb.heap.size,0,none⟩=some (.int .i64 0):=ae bxb 0;have bx1:w2.cell? ⟨wb.heap.size,1,none⟩=some (.bool false):=ae bxb 1;have bx2:w2.cell? ⟨wb.heap.size,2,none⟩=some (.int .i64 0):=ae bxb 2;have bx3:w2.cell? ⟨wb.heap.size,3,none⟩=some (.int .i64 0):=ae bxb 3;have bxf:∀ n,w2.frozen? ⟨wb.heap.size,n,none⟩=false:=ap bxb));(try dsimp only));(try go_wp2_with fail);refine Zk hK fun hHeld=>?_;clear hK K;refine df 8 ?_;refine Zt 10 ?_;refine Z1 11 (fun K hK=>?_);go_simp;refine Zk hK fun hHeld=>?_;clear hK K));rotate_left 1;(focus (go_simp;refine Zk hK fun hHeld=>?_;clear hK K;refine Z1 7 (fun K hK=>?_);go_simp;(go_at_call 76;refine (fW X.tab f0 f1 ⟨f1,true,f2,f3⟩ 0 _ _ (au HTb.out Zb) HGe.out).mono ?_;rintro e w2 ⟨rfl,hb2⟩;have hz2:=hb2.size;(try simp at hz2);(try (have bxb:=aj hb2 (cJ wb _) (dL wb _);have bx0:w2.cell? ⟨wb.heap.size,0,none⟩=some (.int .i64 0):=ae bxb 0;have bx1:w2.cell? ⟨wb.heap.size,1,none⟩=some (.bool false):=ae bxb 1;have bx2:w2.cell? ⟨wb.heap.size,2,none⟩=some (.int .i64 0):=ae bxb 2;have bx3:w2.cell? ⟨wb.heap.size,3,none⟩=some (.int .i64 0):=ae bxb 3;have bxf:∀ n,w2.frozen? ⟨wb.heap.size,n,none⟩=false:=ap bxb));(try dsimp only));(try go_wp2_with fail);refine Zk hK fun hHeld=>?_;clear hK K;refine df 8 ?_;refine Zt 10 ?_));rotate_left 1;(all_goals (refine Z1 12 (fun K hK=>?_);go_simp;refine Zk hK fun hHeld=>?_;clear hK K;refine Zt 13 ?_));(all_goals refine Zd ?_)
        ·refine aY _ (fun wz hwz=>?_)
         have hbz:Below wb.heap.size wb wz:=by rw [hwz];exact (Hr (Ho (Hn _ _)) (hb2.mono (by simp))).alloc (by omega) _
         obtain ⟨nb,hnb⟩:∃ nb,nb=w2.heap.size:=⟨_,rfl⟩;rw [← hnb];exact key nb wz ⟨hbz,by rw [hwz];exact az _ hnb,by omega⟩
        ·refine aY _ (fun wz hwz=>?_);have hba:Below wb.heap.size wb w2:=Hr (Ho ((Hn _ _).alloc (Hv _) _)) (hb2.mono (by simp));have hle:=Hv wb.heap.size
         have hbz:Below wb.heap.size wb wz:=by rw [hwz];exact (((hba.setCell hle _).setCell hle _).setCell hle _).setCell hle _
         obtain ⟨nb,hnb⟩:∃ nb,nb=wb.heap.size:=⟨_,rfl⟩;rw [← hnb];exact key nb wz ⟨hbz,by rw [hwz,hnb];exact aP (aP (aP (aP bxb _) _) _) _,by omega⟩
       case jr1=>
        rintro nb wz ⟨hbz,hnb,hnl⟩;have bzw:Below w.heap.size w wz:=HBb.out.1.trans (hbz.mono HBb.out.1.size);have hbf':=aj hbz HBb.out.2 lbf;have y0:wz.cell? ⟨bf,0,none⟩=some (.int .i64 f0):=ae hbf' 0;have y2:wz.cell? ⟨bf,2,none⟩=some (.int .i64 f2):=ae hbf' 2;have y3:wz.cell? ⟨bf,3,none⟩=some (.int .i64 f3):=ae hbf' 3;have y5:wz.cell? ⟨bf,5,none⟩=some (.int .i64 f5):=ae hbf' 5;have y6:wz.cell? ⟨bf,6,none⟩=some (.int .i64 f6):=ae hbf' 6;have s2:wz.cell? ⟨nb,2,none⟩=some (.int .i64 f2):=ae hnb 2;have s3:wz.cell? ⟨nb,3,none⟩=some (.int .i64 f3):=ae hnb 3;have x8:=ah bzw Y.out.2.2.2 hp;have lnb:=lt_of_block hnb;have lbz:=lt_of_block hbf'
        have hpz:p<wz.heap.size:=by have:=bzw.size;omega
        have hng:¬ f0≤yz X.flows k:=by omega
        have HZ:=Hm (And.intro bzw hbf');clear hbz hnb hnl bzw hbf' e0 e1 x17;go_wp2_with fail;go_quiet ((go_at_call 36;exact Calls.quiet_of_same ((lE _ _ _ _ hr0 hr1).mono (fun _ _ h=>⟨h.1,h.2.symm⟩))));go_wp2_with fail;refine eV _ (fun wc hwc=>?_)
        have bwc:Below wz.heap.size wz wc:=by rw [hwc];exact aJ (Hn _ _)
        have bww:=HZ.out.1.trans (bwc.mono HZ.out.1.size);have HC:=Hm (And.intro bww (aj bwc HZ.out.2 lbz));refine (dY (HK.out wc bww) f3 HX.out.gw.bk).mono ?_;rintro e w3 ⟨rfl,hb3⟩;have b3w:=HC.out.1.trans (hb3.mono HC.out.1.size);have hb3':=aj hb3 HC.out.2 (lt_of_block HC.out.2);have y6:w3.cell? ⟨bf,6,none⟩=some (.int .i64 f6):=ae hb3' 6;have x25:=ah b3w Y.out.2.2.1 hp;have l3:=lt_of_block hb3'
        have hp3:p<w3.heap.size:=by have:=b3w.size;omega
        have H3:=Hm b3w;obtain ⟨st,hst⟩:∃ st,st=gL X.lives f3:=⟨_,rfl⟩;have hst':=HSt.out;rw [← hst] at hst' ⊢;clear hwc bwc bww hb3 b3w hb3' hst y0 y2 y3 y5 s2 s3 x8 hng lnb lbz hpz;rcases hst' with rfl|rfl
        all_goals
         go_wp2_with fail
         refine eV _ (fun wd hwd=>?_)
         have bd:Below w3.heap.size w3 wd:=by rw [hwd];exact (Hn _ _).alloc (Hv _) _
         have hbt:wd.heap[w3.heap.size]?=some (.cells #[.int .i64 f6,.int .i64 f0] 156 (0,0)):=by rw [hwd];exact az _ rfl
         have bdw:=H3.out.trans (bd.mono H3.out.size)
         have t0:wd.cell? ⟨w3.heap.size,0,none⟩=some (.int .i64 f6):=ae hbt 0
         have t1:wd.cell? ⟨w3.heap.size,1,none⟩=some (.int .i64 f0):=ae hbt 1
         have lbt:=lt_of_block hbt
         have hVl:VL.length=25:=by rw [HV.out.1];exact gO HX.out.gw
         have hct:=DP 91 ⟨w3.heap.size,0,none⟩ (fun _ _=>rfl) (fun i=>decide ((⟨f6,f0⟩:Tm)∈X.lists.getD i [])) (.slice aL 25 cL) VL wd (au RL.out bdw) (by omega)
          (fun i hi w' hb'=>flows1 (VL.getD i undef) (X.lists.getD i []) ⟨f6,f0⟩ w3.heap.size w' (au (HV.out.2 i (by rw [← HV.out.1];exact hi)).1 (bdw.trans (hb'.mono bdw.size))) (ah hb' t0 lbt) (ah hb' t1 lbt)) (by rw [hVl];exact HAn.out)
         refine hct.mono ?_
         rintro e w4 ⟨rfl,hb4⟩
         have H4:=Hm (bdw.trans (hb4.mono bdw.size))
         clear hct hwd bd hbt bdw t0 t1 hb4 x25 y6
         go_wp2
         go_roundw
         case rel=>exact ⟨k+1,by omega,by go_num,by rw [HSu.out],H4.out⟩
         case measure=>simp [intOf];omega
      ·have hge:¬ (X.flows.length:Int)<(X.flows.length:Int):=by omega
       have HB:=Hm hbel;clear hbel;go_wp2
       all_goals first|(go_ret;exact ⟨rfl,HB.out⟩)|exact Zx
structure LvS (w w1:World) (L:List Lf) (k:Nat) (wr:World):Prop where
 be:Below w.heap.size w wr
 rg:∃ a c,wr.heap[w.heap.size]?=some (.cells #[.slice a (nj L k).length c] 55 (0,0))∧dd (fun b=>w.heap.size<b) wr 2 (.slice a (nj L k).length c) ((nj L k).map Sp.cells)
 kp:Kp (w.heap.size+1) w1 wr
theorem LvS.keep {w w1 wr wr':World} {L:List Lf} {k:Nat} (h:LvS w w1 L k wr) (hb:Below wr.heap.size wr wr'):LvS w w1 L k wr':=by
 obtain ⟨a,c,h1,h2⟩:=h.rg;exact ⟨h.be.trans (hb.mono h.be.size),⟨a,c,aj hb h1 (lt_of_block h1),bG h2 hb.size (fun b hb' _=>hb.block b hb')⟩,h.kp.trans (Kp.of_below hb)⟩
theorem LvS.step {w w1 wr wr':World} {L:List Lf} {k:Nat} (h:LvS w w1 L k wr) (e:nj L (k+1)=nj L k) (hb:Below wr.heap.size wr wr'):LvS w w1 L (k+1) wr':=by
 have:=h.keep hb;obtain ⟨a,c,h1,h2⟩:=this.rg;exact ⟨this.be,⟨a,c,by rw [e];exact h1,by rw [e];exact h2⟩,this.kp⟩
theorem LvS.new {w w1 wr wr':World} {L:List Lf} {k:Nat} {a:Option Addr} {c:Nat} (h:LvS w w1 L k wr) (hb:Below wr.heap.size wr wr') (r:aM wr.heap.size wr' 2 (.slice a (nj L (k+1)).length c) ((nj L (k+1)).map Sp.cells)) :
  LvS w w1 L (k+1) (wr'.setCell ⟨w.heap.size,0,none⟩ (.slice a (nj L (k+1)).length c)):=by
 obtain ⟨a',c',h1,h2⟩:=h.rg
 have hlt:=lt_of_block h1
 have hk:=(h.keep hb)
 obtain ⟨a2,c2,k1,_⟩:=hk.rg
 refine ⟨hk.be.setCell (Hv _) _,⟨a,c,aP k1 _,?_⟩,hk.kp.set (Nat.lt_succ_self _) _ _⟩
 exact bG (bQ (eu r) (fun b _ hb'=>(by omega:w.heap.size<b))) (by simp) (fun b _ hb'=>Hu _ _ _ _ (fun e:b=w.heap.size=>by omega))
theorem uU {p:Nat} {w:World} {X:Wd} {V:Vs} (h:GR p w X V) (hm:WdMay X) :
  Calls Tryz.prog 47 #[.pointer (some ⟨p,0,none⟩)] w fun e w'=>e=.returned (.bool true)∧Below w.heap.size w w':=by
 have HX:=Hm hm
 have hp:=h.2.2.2.1
 have x17:=h.c 17 (v:=V.t) rfl
 have x19:=h.c 19 (v:=V.l) rfl
 have x21:=h.c 21 (v:=V.s) rfl
 have x16:=h.c 16 (v:=.int .i64 X.now) rfl
 obtain ⟨aT,cT,eT,_,_,_,pT⟩:=aK Sl.zero h.1.ta.1
 obtain ⟨aL,cL,eL,_,_,_,pL⟩:=aK Lf.zero h.1.li.1
 obtain ⟨aS,cS,eS,_⟩:=aq h.1.sp.1
 rw [eT] at x17
 rw [eL] at x19
 rw [eS] at x21
 have RT:=Hm (show aI w 4 (.slice aT X.tab.length cT) (X.tab.map Sl.cells) by have:=h.1.ta.1;rw [eT] at this;exact this)
 have RS:=Hm (show aI w 2 (.slice aS X.ring.length cS) (X.ring.map Sp.cells) by have:=h.1.sp.1;rw [eS] at this;exact this)
 obtain ⟨bT,oT,rfl,hbT,qT⟩:=pT (by intro e;have:=hm.gw.tb.1;rw [e] at this;simp at this)
 have QT:=Hm qT
 have PL:=Hm pL
 have Y:=Hm (And.intro x19 (And.intro x21 x16))
 have n12:X.lives.length≤12:=hm.gw.bk.1
 clear h hm eT eL eS pT pL qT
 go_enter Tryz.func47,Tryz.ntmps47
 go_wp2_with fail
 refine eV _ (fun wa hwa=>?_)
 have ba:Below w.heap.size w wa:=by rw [hwa];exact (Hn _ _).alloc (Hv _) _
 have ka:wa.heap[w.heap.size]?=some (.cells #[.slice none 0 0] 55 (0,0)):=by rw [hwa];exact az _ rfl
 have za:wa.heap.size=w.heap.size+1:=by rw [hwa];simp
 refine (jN bT oT cT X.tab wa (by omega) HX.out.gw.tb (au RT.out ba) (fun i j hi hj=>(ba.cell (p:=⟨bT,_,none⟩) hbT).trans (QT.out i j hi hj))).mono ?_
 rintro e w1 ⟨vc,rfl,rc,hb1⟩
 have b1:=ba.trans (hb1.mono ba.size)
 have k1:=aj hb1 ka (lt_of_block ka)
 obtain ⟨vca,vcc,rfl,_,_,_,pC⟩:=aK (0:Int) rc.1
 rw [gR] at *
 obtain ⟨bC,oC,rfl,hbC,qC⟩:=pC (by intro e;have:=gR X.tab X.tab.length;rw [e] at this;simp at this)
 have hbC2:w.heap.size<bC:=by have:=rc.2 _ _ _ rfl;simp only at this;omega
 have QC:=Hm qC
 have x19:=ah b1 Y.out.1 hp
 have hp1:p<w1.heap.size:=by have:=b1.size;omega
 have S0:=Hm (show LvS w w1 X.lives 0 w1 from ⟨b1,⟨none,0,by rw [Ci];exact k1,by rw [Ci];exact ⟨ix _ _,fun b o n c e _=>by cases e⟩⟩,Kp.refl _ _⟩)
 clear hwa ba ka za rc hb1 b1 k1 pC qC x16 x21 x17
 go_wp2_with fail
 go_loopw [25] (fun i wr=>∃ k:Nat,k≤X.lives.length∧i=.int .i64 k∧LvS w w1 X.lives k wr) (fun i _=>X.lives.length - (intOf i).toNat)
 case atStart=>exact ⟨0,Hx _,rfl,S0.out⟩
 case round=>
  obtain ⟨k,hk,rfl,hs⟩:=hrel;have HS:=Hm hs;have hbel:=hs.be;have hz:=hbel.size;have hpr:p<wr.heap.size:=by omega
  rcases (show k<X.lives.length∨k=X.lives.length by omega) with hlt|rfl
  ·have hlt':(k:Int)<(X.lives.length:Int):=by omega
   have k0:(0:Int)≤(k:Int):=by omega
   obtain ⟨b1,o1,rfl,hb1,q1⟩:=PL.out (by intro e;rw [e] at hlt;simp at hlt)
   have hm:X.lives.getD k Lf.zero∈X.lives:=by rw [aN hlt];exact I8 hlt
   have hbk:=eO HX.out.gw.bk hm;have hsi:=HX.out.gw.si _ hm;have hun:=HX.out.un _ hm;have hcp:=Gg HX.out.gw hm;have had:=rl_add HX.out.gw.bk hlt;have hke:=Ff HX.out.gw.bk hlt;have hrl:=js (Ch HX.out.gw.bk k);have a0:=(hbel.cell (p:=⟨b1,o1+k*6+0,none⟩) hb1).trans (q1 k 0 hlt (by omega));have a1:=(hbel.cell (p:=⟨b1,o1+k*6+1,none⟩) hb1).trans (q1 k 1 hlt (by omega));have a2:=(hbel.cell (p:=⟨b1,o1+k*6+2,none⟩) hb1).trans (q1 k 2 hlt (by omega));have a3:=(hbel.cell (p:=⟨b1,o1+k*6+3,none⟩) hb1).trans (q1 k 3 hlt (by omega));have a4:=(hbel.cell (p:=⟨b1,o1+k*6+4,none⟩) hb1).trans (q1 k 4 hlt (by omega));have a5:=(hbel.cell (p:=⟨b1,o1+k*6+5,none⟩) hb1).trans (q1 k 5 hlt (by omega));have x16:=ah hbel Y.out.2.2 hp;obtain ⟨x,hx⟩:∃ x,x=X.lives.getD k Lf.zero:=⟨_,rfl⟩;rw [← hx] at a0 a1 a2 a3 a4 a5 hbk hsi hun hcp had hke;obtain ⟨x0,x1,x2,x3,x4,x5⟩:=x;simp only [Lf.cells,Hy,Hz,Nat.add_zero] at a0 a1 a2 a3 a4 a5 hbk hsi hun hcp had hke;obtain ⟨h0,h1,h2,h3,h4,h5,h6,h7,h8,h9,hst⟩:=hbk;simp only at h0 h1 h2 h3 hst;have HCp:=Hm hcp;have HAd:=Hm had;have HKe:=Hm hke;have HUn:=Hm hun;have nsi:¬ X.now<x3:=by omega
   have hst4:x1=1∨x1=2∨x1=3∨x1=4:=by omega
   clear hm hx hcp had hke hun hst q1 h4 h5 h6 h7 h8 h9 hs;obtain ⟨n0,rfl⟩:=Ia h0;obtain ⟨ra,rc,hr1,hr2⟩:=HS.out.rg;have xr:wr.cell? ⟨w.heap.size,0,none⟩=some (.slice ra (nj X.lives k).length rc):=ae hr1 0;have lr:=lt_of_block hr1;have HR1:=Hm (And.intro hr1 hr2);have n0':n0<12:=by omega
   have hkp:=HS.out.kp
   have cC:wr.cell? ⟨bC,oC+n0,none⟩=some (.int .i64 ((gZ X.tab X.tab.length).getD n0 0)):=by
    have:=QC.out n0 0 n0' (by omega);simp only [Nat.mul_one,Nat.add_zero,Hy] at this;rw [← this];exact I1 (a:=⟨bC,oC+n0,none⟩) (hkp.2 bC (by omega) hbC)
   obtain ⟨cv,hcv⟩:∃ cv,cv=(gZ X.tab X.tab.length).getD n0 0:=⟨_,rfl⟩;rw [← hcv] at cC;have HCv:=Hm hcv;have n0i:(n0:Int)<12:=by omega
   have n0j:(0:Int)≤(n0:Int):=by omega
   have lC:bC<wr.heap.size:=by have:=hkp.1;omega
   clear hr1 hr2 hkp hcv;rcases hst4 with rfl|rfl|rfl|rfl
   ·exact Q40
   ·go_wp2_with fail;go_quiet (fail);go_wp2_with fail;refine eV _ (fun wc hwc=>?_)
    have bwc:Below wr.heap.size wr wc:=by rw [hwc];exact (by repeat (first|exact Hn _ _|refine aJ ?_|refine Hs ?_ (by first|omega|(simp;done)|(simp;omega)) _))
    refine (pV _ (nj X.lives k) wc (n0:Int) x2 (nj X.lives (k+1)) 0 (au HR1.out.2.1 bwc) (by omega) (HAd.out (by first|rfl|trivial))).mono ?_;rintro e w2 ⟨v2,rfl,R2,hb2⟩;obtain ⟨a2,c2,rfl,_⟩:=aq R2.1;have bw2:=bwc.trans (hb2.mono bwc.size);have hk2:=aj bw2 HR1.out.1 lr;have xr:w2.cell? ⟨w.heap.size,0,none⟩=some (.slice ra (nj X.lives k).length rc):=ae hk2 0;have xf:∀ n,w2.frozen? ⟨w.heap.size,n,none⟩=false:=fun n=>ap hk2 n;have lr2:=lt_of_block hk2;have hsz:=bwc.size;have HN:=Hm (HS.out.new bw2 ⟨R2.1,fun a n c e=>Ii hsz (R2.2 a n c e)⟩);clear hwc bwc hb2 bw2 hk2 R2 hsz cC;go_wp2;go_roundw
    case rel=>exact ⟨k+1,by omega,by go_num,HN.out⟩
    case measure=>simp [intOf];omega
   ·have nun:¬ x4≤X.now:=by have:=HUn.out rfl;omega
    have ncv:¬ cv=0:=by have:=HCp.out rfl;rw [I6] at this;rw [HCv.out];exact this
    have nunD:decide (x4≤X.now)=false:=by simpa using nun
    have ncvD:decide (cv=0)=false:=by simpa using ncv
    have ncvB:(cv == 0)=false:=by simpa using ncv
    go_wp2_with fail;go_quiet (fail);exact Q40
   ·exact Q40
  ·have hge:¬ (X.lives.length:Int)<(X.lives.length:Int):=by omega
   obtain ⟨ra,rc,hr1,hr2⟩:=hs.rg;have xr:wr.cell? ⟨w.heap.size,0,none⟩=some (.slice ra (nj X.lives X.lives.length).length rc):=ae hr1 0;have lr:=lt_of_block hr1;have x21:=ah hbel Y.out.2.1 hp;have HQ:=Hm (And.intro hr2.1 (au RS.out hbel));have HG:=Hm (rl_all HX.out.gw);have HB:=Hm hbel;clear hs hr1 hr2 hbel;go_wp2_with fail;go_quiet ((go_at_call 94;exact Calls.quiet_of (zz _ _ (nj X.lives X.lives.length) X.ring _ (dD HQ.out.1 _) (dD HQ.out.2 _) true (Or.inl ⟨HG.out,rfl⟩))));go_wp2
   all_goals first|(go_ret;exact ⟨rfl,(by repeat (first|exact HB.out|refine aJ ?_))⟩)|exact Zx
end
end Go.Proofs.YtfliffgmeobclaaGreat
