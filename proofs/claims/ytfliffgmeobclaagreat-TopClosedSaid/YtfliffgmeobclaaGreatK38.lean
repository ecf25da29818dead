/- Texts of the row's proof. Conditions: none. -/
import Derived.Test.YtfliffgmeobclaaGreatK37
namespace Go.Proofs.YtfliffgmeobclaaGreat
set_option maxRecDepth 100000
set_option maxHeartbeats 8000000
section
open Go.RowKit
theorem GwMay.req {X:Wd} (h:GwMay X) {R':List Rq} (hR:bF X.lives R'):GwMay { X with lives:=X.lives,reqs:=R' }:=nK h hR rfl (fun f hf=>(h.fl f hf).st) h.dr h.si
theorem uo {X:Wd} {e:Ev} {L':List Lf} {R':List Rq} {ans:Int} {nw:Bool} (h:nw=false∨ans≠0∨e.kind≠6):(jF X e L' R' ans nw).1={ X with lives:=L',reqs:=R' }:=by
 unfold jF;simp only;rw [if_pos h]
def Hm (X:Wd) (e:Ev) (L':List Lf) (ans:Int) (nw:Bool):Prop:=nw=true→ans=0→e.kind=6→gL X.lives e.backend≠1→ut X.ring e.backend (bO (dM L')) 0
theorem ul {X:Wd} (h:GwMay X) {e:Ev} (he:uD e) {L':List Lf} {R':List Rq} {ans:Int} {nw:Bool} (hg:oG X.lives X.reqs ⟨e.request,fE e.kind,e.backend,e.weight,0⟩ X.now X.cf.drain L' R' ans nw) :
  bF L' R'∧Hm X e L' ans nw∧GwMay (jF X e L' R' ans nw).1:=by
 have hs:=cG h.bk
 have h0:=h.n0;have h1:=h.n1
 have hd:=h.cf.1.1
 obtain ⟨ek,er0,er1,eb0,eb1⟩:=he
 rcases hg with ⟨q,_,_,rfl,rfl,_,rfl⟩|⟨hn,⟨_,rfl,rfl,rfl,rfl⟩|⟨hl,rfl,⟨hk,hj,rfl⟩|⟨hk,hr,rfl⟩⟩⟩
 ·exact Q158
 ·exact Q158
 ·have hk6:e.kind≠6:=by intro g;simp [fE,g] at hk
  have hR:bF X.lives (X.reqs++[⟨e.request,1,e.backend,e.weight,ans⟩]):=Ea h.bk ⟨er0,er1,Or.inl rfl⟩ hn hl;rw [uo (Or.inr (Or.inr hk6))];have hno:Hm X e L' ans true:=fun _ _ g=>absurd g hk6;simp only [xt] at hj;rcases hj with ⟨_,rfl,rfl⟩|⟨_,_,rfl,rfl⟩|⟨hw,⟨i,hi,hx,h4,rfl⟩,rfl⟩|⟨hw,hx,rfl,rfl⟩
  ·exact ⟨hR,hno,h.req hR⟩
  ·exact ⟨hR,hno,h.req hR⟩
  ·have hb:(lh ⟨e.request,fE e.kind,e.backend,e.weight,0⟩).backend=(X.lives.getD i Lf.zero).backend:=by
    have:=(dz ((fH X.lives e.backend).2 i hx hi)).2;exact this.symm
   have hy:ex (lh ⟨e.request,fE e.kind,e.backend,e.weight,0⟩):=⟨hw.1.1,hw.1.2,hw.2.1,hw.2.2,(by decide:(0:Int)≤0),(by decide:(0:Int)≤1099511627776),(by decide:(0:Int)≤0),(by decide:(0:Int)≤1099511628276),(by decide:(0:Int)≤0),(by decide:(0:Int)≤1048576),Or.inl ⟨rfl,rfl,rfl,rfl⟩⟩;exact ⟨nM hR hi hy hb,hno,vF h hR hi hy hb (Or.inl rfl) (Or.inr h4) h0⟩
  ·have hy:ex (lh ⟨e.request,fE e.kind,e.backend,e.weight,0⟩):=⟨hw.1.1,hw.1.2,hw.2.1,hw.2.2,(by decide:(0:Int)≤0),(by decide:(0:Int)≤1099511627776),(by decide:(0:Int)≤0),(by decide:(0:Int)≤1099511628276),(by decide:(0:Int)≤0),(by decide:(0:Int)≤1048576),Or.inl ⟨rfl,rfl,rfl,rfl⟩⟩
   have hne:∀ g∈X.lives,g.backend≠(lh ⟨e.request,fE e.kind,e.backend,e.weight,0⟩).backend:=by
    intro g hg;rcases bJ (cE e.backend) X.lives Lf.zero with ⟨_,h6⟩|⟨i,hi,he',_⟩
    ·have:=h6 g hg;simp [cE] at this;exact this
    ·omega
   have hM:=Db h hR hy hne rfl h0;exact ⟨hM.bk,hno,hM⟩
 ·have hk6:e.kind=6:=by
   refine Classical.byContradiction fun g=>?_;simp [fE,g] at hk
  have hR:bF X.lives (X.reqs++[⟨e.request,2,e.backend,0,ans⟩]):=Ea h.bk ⟨er0,er1,Or.inr rfl⟩ hn hl;simp only [xn] at hr;rcases hr with ⟨_,rfl,rfl⟩|⟨_,rfl,rfl⟩|⟨_,rfl,rfl⟩|⟨i,hi,hx,hst,rfl,rfl⟩
  ·exact Q88
  ·exact Q88
  ·exact Q88
  ·have hm:X.lives.getD i Lf.zero∈X.lives:=by rw [aN hi];exact If hi
   have hxb:(X.lives.getD i Lf.zero).backend=e.backend:=(dz ((fH X.lives e.backend).2 i hx hi)).2
   have hsB:gL X.lives e.backend=(X.lives.getD i Lf.zero).state:=by rw [← hxb];exact pH hs hm
   have hsi:=h.si _ hm;obtain ⟨a1,a2,a3,a4,a5,a6,a7,a8,a9,a10,hst4⟩:=eO h.bk hm;have u1:0≤X.now+X.cf.drain:=by omega
   have u2:X.now+X.cf.drain≤1099511628276:=by omega
   by_cases hj1:(X.lives.getD i Lf.zero).state=1
   ·have hy4:(jl (X.lives.getD i Lf.zero) ⟨e.request,2,e.backend,0,0⟩ X.now X.cf.drain).state=4:=if_pos hj1;have hy:ex (jl (X.lives.getD i Lf.zero) ⟨e.request,2,e.backend,0,0⟩ X.now X.cf.drain):=⟨a1,a2,a3,a4,a5,a6,u1,u2,er0,er1,Or.inr (Or.inr (Or.inr hy4))⟩;refine ⟨nM hR hi hy rfl,fun _ _ _ g=>absurd (hsB.trans hj1) g,?_⟩;unfold jF;simp only;rw [if_neg (by simp [hk6]),if_pos (hsB.trans hj1)];exact vF h hR hi hy rfl (Or.inr hy4) (Or.inl hj1) hsi
   ·have hy3:(jl (X.lives.getD i Lf.zero) ⟨e.request,2,e.backend,0,0⟩ X.now X.cf.drain).state=3:=if_neg hj1;have h2:(X.lives.getD i Lf.zero).state=2:=by omega
    have hy:ex (jl (X.lives.getD i Lf.zero) ⟨e.request,2,e.backend,0,0⟩ X.now X.cf.drain):=⟨a1,a2,a3,a4,a5,a6,u1,u2,er0,er1,Or.inr (Or.inr (Or.inl hy3))⟩;have hyb:(jl (X.lives.getD i Lf.zero) ⟨e.request,2,e.backend,0,0⟩ X.now X.cf.drain).backend=e.backend:=hxb;refine ⟨nM hR hi hy rfl,fun _ _ _ _=>?_,?_⟩
    ·have:=D3 h hi (y:=(jl (X.lives.getD i Lf.zero) ⟨e.request,2,e.backend,0,0⟩ X.now X.cf.drain)) rfl hy3 h2;rw [hyb] at this;exact this
    ·unfold jF;simp only;rw [if_neg (by simp [hk6]),if_neg (by rw [hsB];exact hj1)];have:=lI (D4 h hR hi hy rfl hy3 hsi);rw [hyb] at this;exact this
structure Goes (X Y:Wd):Prop where
 now:Y.now=X.now
 fl:∀ f∈Y.flows,(∃ g∈X.flows,g.due=f.due)∨X.now<f.due
 lv:∀ x∈Y.lives,x.state=3→x∈X.lives∨X.now<x.until_
theorem Goes.refl (X:Wd):Goes X X:=⟨rfl,fun f hf=>Or.inl ⟨f,hf,rfl⟩,fun _ h _=>Or.inl h⟩
theorem Goes.trans {X Y Z:Wd} (h:Goes X Y) (k:Goes Y Z):Goes X Z:=by
 refine ⟨k.now.trans h.now,fun f hf=>?_,fun x hx h3=>?_⟩
 ·rcases k.fl f hf with ⟨g,hg,e⟩|g
  ·rw [← e];exact h.fl g hg
  ·rw [h.now] at g;exact Or.inr g
 ·rcases k.lv x hx h3 with g|g
  ·exact h.lv x g h3
  ·rw [h.now] at g;exact Or.inr g
theorem WdMay.goes {X Y:Wd} (h:WdMay X) (hY:GwMay Y) (g:Goes X Y):WdMay Y:=by
 refine ⟨hY,fun f hf=>?_,fun x hx h3=>?_⟩
 ·rw [g.now];rcases g.fl f hf with ⟨k,hk,e⟩|k
  ·rw [← e];exact h.du k hk
  ·exact k
 ·rw [g.now];rcases g.lv x hx h3 with k|k
  ·exact h.un x k h3
  ·exact k
theorem StepS.goes {P Q:Wd×List Out} {s:Int} (h:StepS P Q s):Goes P.1 Q.1:=by
 refine ⟨h.now,fun f hf=>?_,fun x hx h3=>Or.inl (h.lv x hx h3)⟩;rcases h.fl f hf with ⟨g,_⟩|g
 ·exact Or.inl ⟨f,g,rfl⟩
 ·exact Or.inr g
theorem uP (X:Wd) (b:Int):Goes X (bZ X b).1:=by
 obtain ⟨L,e,hL,_⟩:=jw X b;rw [e];exact ⟨rfl,fun f hf=>Or.inl ⟨f,hf,rfl⟩,fun x hx h3=>Or.inl (hL x hx h3)⟩
theorem se {X:Wd} (h:GwMay X) (key:Nat):Goes X (gj X key).1:=by
 have hcn:=h.cf.1.1;unfold gj;by_cases h1:aQ fh X.tab<0
 ·rw [if_pos h1];exact .refl X
 ·rw [if_neg h1];by_cases h2:(dC X key (-1)).2≠0
  ·rw [if_pos h2];exact .refl X
  ·rw [if_neg h2];refine ⟨rfl,fun f hf=>?_,fun x hx _=>Or.inl hx⟩;rcases jn.1 hf with rfl|hf
   ·exact Or.inr (by simp only;omega)
   ·exact Or.inl ⟨f,hf,rfl⟩
theorem sA {X:Wd} (h:GwMay X) (i:Nat):Goes X (mD X i):=by
 have hcn:=h.cf.1.1;refine ⟨rfl,fun f hf=>?_,fun x hx _=>Or.inl hx⟩;rcases List.mem_or_eq_of_mem_set hf with hf|rfl
 ·exact Or.inl ⟨f,hf,rfl⟩
 ·exact Or.inr (by simp only;omega)
theorem uS {X:Wd} {i:Nat} (hi:i<X.flows.length):Goes X (iV X i):=by
 refine ⟨rfl,fun f hf=>?_,fun x hx _=>Or.inl hx⟩;rcases List.mem_or_eq_of_mem_set hf with hf|rfl
 ·exact Or.inl ⟨f,hf,rfl⟩
 ·exact Or.inl ⟨X.flows.getD i Fl.zero,by rw [aN hi];exact If hi,rfl⟩
theorem sF {X:Wd} (h:GwMay X) (e:Ev):Goes X (fj X e).1:=by
 unfold fj;by_cases hc:ub X.tab e.slot e.gen≠0
 ·rw [if_pos hc];exact .refl X
 ·rw [if_neg hc];obtain ⟨hf1,hi,_,_⟩:=yz h (Decidable.not_not.1 hc);have hf:gF X e.slot:=⟨hf1,hi⟩;by_cases h3:e.kind=3
  ·rw [if_pos h3];exact (mM h hf [] 7 0).step.goes
  ·rw [if_neg h3];by_cases h2:e.kind=2
   ·rw [if_pos h2];simp only;by_cases hs:(X.flows.getD (eY X e.slot) Fl.zero).serving=true
    ·rw [if_pos hs];exact sA h _
    ·rw [if_neg hs];exact .refl X
   ·rw [if_neg h2];by_cases hs:(X.flows.getD (eY X e.slot) Fl.zero).serving=true
    ·rw [if_pos hs];exact .refl X
    ·rw [if_neg hs];by_cases hg:e.good=true
     ·rw [if_pos hg];have hfm:=h.at_ hi;obtain ⟨q,q1,q2,q3,q4,q5,q6,q7,q8,q9⟩:=h.num hfm;have hs':=pN h hi;have hN:=hs'.noted (b:=(X.flows.getD (eY X e.slot) Fl.zero).backend.toNat) (by omega) false
      have g1:Goes X (bU (iV X (eY X e.slot)) (X.flows.getD (eY X e.slot) Fl.zero).backend.toNat false):=by
       have:=uS hi;exact ⟨this.now,this.fl,this.lv⟩
      exact g1.trans (sA hN _)
     ·rw [if_neg hg];exact (sH h hf [] 3).goes
theorem BG {L:List Lf} {R:List Rq} {r:Rq} {now drain:Int} {L':List Lf} {R':List Rq} {ans:Int} {nw:Bool} (hd:1≤drain) (hg:oG L R r now drain L' R' ans nw):∀ x∈L',x.state=3→x∈L∨now<x.until_:=by
 intro x hx h3;rcases hg with ⟨q,_,_,rfl,_⟩|⟨hn,⟨_,rfl,_⟩|⟨hl,_,⟨hk,hj,_⟩|⟨hk,hr,_⟩⟩⟩
 ·exact Or.inl hx
 ·exact Or.inl hx
 ·rcases hj with ⟨_,rfl,_⟩|⟨_,_,rfl,_⟩|⟨_,⟨i,_,_,_,rfl⟩,_⟩|⟨_,_,rfl,_⟩
  ·exact Or.inl hx
  ·exact Or.inl hx
  ·rcases List.mem_or_eq_of_mem_set hx with hx|rfl
   ·exact Or.inl hx
   ·exact absurd h3 (by simp [lh])
  ·rcases (kt).1 hx with rfl|hx
   ·exact absurd h3 (by simp [lh])
   ·exact Or.inl hx
 ·rcases hr with ⟨_,rfl,_⟩|⟨_,rfl,_⟩|⟨_,rfl,_⟩|⟨i,_,_,_,rfl,_⟩
  ·exact Or.inl hx
  ·exact Or.inl hx
  ·exact Or.inl hx
  ·rcases List.mem_or_eq_of_mem_set hx with hx|rfl
   ·exact Or.inl hx
   ·exact Or.inr (by simp only [jl];omega)
theorem wV {X:Wd} (h:GwMay X) {e:Ev} {L':List Lf} {R':List Rq} {ans:Int} {nw:Bool} (hg:oG X.lives X.reqs ⟨e.request,fE e.kind,e.backend,e.weight,0⟩ X.now X.cf.drain L' R' ans nw):Goes X (jF X e L' R' ans nw).1:=by
 have hd:=h.cf.1.1;have hl:=BG (by omega) hg;have g1:∀ rg,Goes X { X with lives:=L',reqs:=R',ring:=rg }:=fun rg=>⟨rfl,fun f hf=>Or.inl ⟨f,hf,rfl⟩,hl⟩;unfold jF;simp only;by_cases h1:nw=false∨ans≠0∨e.kind≠6
 ·rw [if_pos h1];exact g1 X.ring
 ·rw [if_neg h1];by_cases h2:gL X.lives e.backend=1
  ·rw [if_pos h2];exact g1 X.ring
  ·rw [if_neg h2];exact (g1 (bO (dM L'))).trans (uP _ _)
theorem FA {X:Wd} (h:WdMay X) {key:Nat} (hk:key<4294967296):WdMay (gj X key).1:=h.goes (CQ h.gw hk) (se h.gw key)
theorem Gb {X:Wd} (h:WdMay X) (e:Ev):WdMay (fj X e).1:=h.goes (DL h.gw e) (sF h.gw e)
theorem ask_wd {X:Wd} (h:WdMay X) {e:Ev} (he:uD e) {L':List Lf} {R':List Rq} {ans:Int} {nw:Bool} (hg:oG X.lives X.reqs ⟨e.request,fE e.kind,e.backend,e.weight,0⟩ X.now X.cf.drain L' R' ans nw):WdMay (jF X e L' R' ans nw).1:=h.goes (ul h.gw he hg).2.2 (wV h.gw hg)
def jnF (L:List Lf) (r:Rq):List Lf×Int:=
 if ¬ ((0≤r.backend∧r.backend≤11)∧(1≤r.weight∧r.weight≤8)) then (L,2)
 else if aQ (cE r.backend) L<0 then (eo L (nB L r.backend) (lh r),0)
 else if (L.getD (aQ (cE r.backend) L).toNat Lf.zero).state≠4 then (L,7)
 else (L.set (aQ (cE r.backend) L).toNat (lh r),0)
theorem FR (L:List Lf) (r:Rq):xt L r (jnF L r).1 (jnF L r).2:=by
 unfold jnF;by_cases h:(0≤r.backend∧r.backend≤11)∧(1≤r.weight∧r.weight≤8)
 ·rw [if_neg (not_not_intro h)];rcases bJ (cE r.backend) L Lf.zero with ⟨e,_⟩|⟨i,hi,e,_⟩
  ·rw [if_pos (by omega)];exact Or.inr (Or.inr (Or.inr ⟨h,e,rfl,rfl⟩))
  ·rw [if_neg (by omega),e,Id];by_cases h4:(L.getD i Lf.zero).state≠4
   ·rw [if_pos h4];exact Or.inr (Or.inl ⟨h,⟨i,hi,e,h4⟩,rfl,rfl⟩)
   ·rw [if_neg h4];exact Or.inr (Or.inr (Or.inl ⟨h,⟨i,hi,e,Decidable.not_not.1 h4,rfl⟩,rfl⟩))
 ·rw [if_pos h];exact Or.inl ⟨h,rfl,rfl⟩
def rtF (L:List Lf) (r:Rq) (now drain:Int):List Lf×Int:=
 if aQ (cE r.backend) L<0 then (L,8)
 else if (L.getD (aQ (cE r.backend) L).toNat Lf.zero).state=4 then (L,8)
 else if (L.getD (aQ (cE r.backend) L).toNat Lf.zero).state=3 then (L,12)
 else (L.set (aQ (cE r.backend) L).toNat (jl (L.getD (aQ (cE r.backend) L).toNat Lf.zero) r now drain),0)
theorem Fj (L:List Lf) (r:Rq) (now drain:Int):xn L r now drain (rtF L r now drain).1 (rtF L r now drain).2:=by
 unfold rtF;rcases bJ (cE r.backend) L Lf.zero with ⟨e,_⟩|⟨i,hi,e,_⟩
 ·rw [if_pos (by omega)];exact Or.inl ⟨e,rfl,rfl⟩
 ·rw [if_neg (by omega),e,Id];by_cases h4:(L.getD i Lf.zero).state=4
  ·rw [if_pos h4];exact Or.inr (Or.inl ⟨⟨i,hi,e,h4⟩,rfl,rfl⟩)
  ·rw [if_neg h4];by_cases h3:(L.getD i Lf.zero).state=3
   ·rw [if_pos h3];exact Or.inr (Or.inr (Or.inl ⟨⟨i,hi,e,h3⟩,rfl,rfl⟩))
   ·rw [if_neg h3];exact Or.inr (Or.inr (Or.inr ⟨i,hi,e,⟨h4,h3⟩,rfl,rfl⟩))
structure AkF where
 L:List Lf
 R:List Rq
 ans:Int
 nw:Bool
def BI (L:List Lf) (R:List Rq) (r:Rq) (now drain:Int):AkF:=
 if ¬ aQ (jW r.id) R<0 then ⟨L,R,(R.getD (aQ (jW r.id) R).toNat Rq.zero).answer,false⟩
 else if R.length=100 then ⟨L,R,9,false⟩
 else if r.kind=1 then ⟨(jnF L r).1,R++[⟨r.id,1,r.backend,r.weight,(jnF L r).2⟩],(jnF L r).2,true⟩
 else ⟨(rtF L ⟨r.id,2,r.backend,0,r.answer⟩ now drain).1,R++[⟨r.id,2,r.backend,0,(rtF L ⟨r.id,2,r.backend,0,r.answer⟩ now drain).2⟩],(rtF L ⟨r.id,2,r.backend,0,r.answer⟩ now drain).2,true⟩
theorem Gy (L:List Lf) (R:List Rq) (r:Rq) (now drain:Int) (hk:r.kind=1∨r.kind=2):oG L R r now drain (BI L R r now drain).L (BI L R r now drain).R (BI L R r now drain).ans (BI L R r now drain).nw:=by
 unfold BI;rcases bJ (jW r.id) R Rq.zero with ⟨e,_⟩|⟨i,hi,e,_⟩
 ·rw [if_neg (by omega)];by_cases hl:R.length=100
  ·rw [if_pos hl];exact Or.inr ⟨e,Or.inl ⟨hl,rfl,rfl,rfl,rfl⟩⟩
  ·rw [if_neg hl];by_cases h1:r.kind=1
   ·rw [if_pos h1];exact Or.inr ⟨e,Or.inr ⟨hl,rfl,Or.inl ⟨h1,FR L r,rfl⟩⟩⟩
   ·rw [if_neg h1];exact Or.inr ⟨e,Or.inr ⟨hl,rfl,Or.inr ⟨by omega,Fj L _ now drain,rfl⟩⟩⟩
 ·rw [if_pos (by omega),e,Id];exact Or.inl ⟨i,hi,e,rfl,rfl,rfl,rfl⟩
def reqE (e:Ev):Rq:=⟨e.request,fE e.kind,e.backend,e.weight,0⟩
def wW (X:Wd) (e:Ev):AkF:=BI X.lives X.reqs (reqE e) X.now X.cf.drain
def um (X:Wd) (e:Ev):Wd×List Out:=jF X e (wW X e).L (wW X e).R (wW X e).ans (wW X e).nw
theorem pi (X:Wd) {e:Ev} (_:e.kind=5∨e.kind=6):oG X.lives X.reqs ⟨e.request,fE e.kind,e.backend,e.weight,0⟩ X.now X.cf.drain (wW X e).L (wW X e).R (wW X e).ans (wW X e).nw:=
 Gy X.lives X.reqs (reqE e) X.now X.cf.drain (by unfold reqE fE;simp only;by_cases h:e.kind=6<;>simp [h])
def mP (X:Wd) (e:Ev):Wd×List Out:=
 if e.kind=1 then gj X e.key.toNat else if e.kind=5∨e.kind=6 then um X e else if e.kind=7 then jc X else fj X e
structure EvMay (X:Wd) (e:Ev):Prop where
 k0:0≤e.key
 k1:e.key≤4294967295
 r0:0≤e.request
 r1:e.request≤1048576
 b0:0≤e.backend
 b1:e.backend≤11
 tk:e.kind=7→X.now<1099511626776
theorem EvMay.ask {X:Wd} {e:Ev} (h:EvMay X e) (hk:e.kind=5∨e.kind=6):uD e:=⟨hk,h.r0,h.r1,h.b0,h.b1⟩
theorem Hh {X:Wd} (h:WdMay X) {e:Ev} (he:EvMay X e):WdMay (mP X e).1:=by
 unfold mP;by_cases h1:e.kind=1
 ·rw [if_pos h1];exact FA h (by have:=he.k0;have:=he.k1;omega)
 ·rw [if_neg h1];by_cases h2:e.kind=5∨e.kind=6
  ·rw [if_pos h2];exact ask_wd h (he.ask h2) (pi X h2)
  ·rw [if_neg h2];by_cases h3:e.kind=7
   ·rw [if_pos h3];exact (zd h (he.tk h3)).1
   ·rw [if_neg h3];exact Gb h e
theorem nj (X:Wd) (b:Int):(bZ X b).1.cf=X.cf:=by
 obtain ⟨L,e,_⟩:=jw X b;rw [e]
theorem pJ {X:Wd} {b:Int} {o:Out} (h:o∈(bZ X b).2):o.kind=9:=by
 unfold bZ at h
 cases hl:dt X.lives b with
 | none=>rw [hl] at h;simp at h
 | some x=>
  rw [hl] at h;simp only at h;by_cases hc:x.state=3∧iX X.tab b X.tab.length=[]
  ·rw [if_pos hc] at h;simp at h;rw [h]
  ·rw [if_neg hc] at h;simp at h
theorem qL (X:Wd) (i:Nat) (k y:Int):(gQ X i k y).1.cf=X.cf:=by unfold gQ;rw [nj];rfl
theorem ph {X:Wd} {i:Nat} {k y:Int} {o:Out} (h:o∈(gQ X i k y).2):o.kind=k∨o.kind=9:=by
 unfold gQ at h;exact Q159
theorem zF (X:Wd) (i:Nat) (why:Int):(eU X i why).1.cf=X.cf:=by
 unfold eU;simp only
 split
 ·rw [qL]
  rfl
 ·split
  ·rw [qL]
   rfl
  ·split
   ·rfl
   ·rw [nj]
    rfl
theorem wH {X:Wd} {i:Nat} {why:Int} {o:Out} (h:o∈(eU X i why).2):o.kind=6∨o.kind=5∨o.kind=9:=by
 unfold eU at h;simp only at h
 split at h
 ·rcases ph h with h|h
  ·exact Or.inl h
  ·exact Or.inr (Or.inr h)
 ·split at h
  ·rcases ph h with h|h
   ·exact Or.inl h
   ·exact Or.inr (Or.inr h)
  ·split at h
   ·simp at h;rw [h];exact Or.inr (Or.inl rfl)
   ·rcases List.mem_cons.1 h with rfl|h
    ·exact Or.inr (Or.inl rfl)
    ·exact Or.inr (Or.inr (pJ h))
theorem due_cf (P:Wd×List Out) (s:Int):(lX P s).1.cf=P.1.cf:=by
 unfold lX
 split
 ·exact qL _ _ 6 1
 ·exact zF _ _ _
theorem Gi {P:Wd×List Out} {s:Int} {o:Out} (h:o∈(lX P s).2):o∈P.2∨o.kind=6∨o.kind=5∨o.kind=9:=by
 unfold lX at h
 split at h
 ·exact Q121
 ·rcases List.mem_append.1 h with h|h
  ·exact Or.inl h
  ·exact Or.inr (wH h)
theorem cut_cf (P:Wd×List Out) (s:Int):(oQ P s).1.cf=P.1.cf:=qL _ _ 6 2
theorem Gm {P:Wd×List Out} {s:Int} {o:Out} (h:o∈(oQ P s).2):o∈P.2∨o.kind=6∨o.kind=5∨o.kind=9:=by
 unfold oQ at h;exact Q121
theorem kT {α β γ:Type} {f:β→α→β} {g:β→γ} (h:∀ b a,g (f b a)=g b):∀ (L:List α) (b:β),g (L.foldl f b)=g b
 | [],_=>rfl
 | a :: L,b=>by rw [List.foldl_cons,kT h L,h]
theorem mI {α:Type} {f:Wd×List Out→α→Wd×List Out} {p:Out→Prop} (h:∀ P a o,o∈(f P a).2→o∈P.2∨p o):∀ (L:List α) (P:Wd×List Out) (o:Out),o∈(L.foldl f P).2→o∈P.2∨p o
 | [],_,_,ho=>Or.inl ho
 | a :: L,P,o,ho=>by
  rw [List.foldl_cons] at ho;rcases mI h L (f P a) o ho with g|g
  ·exact h P a o g
  ·exact Or.inr g
theorem DS (P:Wd×List Out) (x:Lf):(gb P x).1.cf=P.1.cf:=by
 unfold gb
 split
 ·rfl
 ·exact kT (g:=fun P:Wd×List Out=>P.1.cf) cut_cf _ _
theorem Br {P:Wd×List Out} {x:Lf} {o:Out} (h:o∈(gb P x).2):o∈P.2∨o.kind=6∨o.kind=5∨o.kind=9:=by
 unfold gb at h
 split at h
 ·exact Or.inl h
 ·exact mI (p:=fun o=>o.kind=6∨o.kind=5∨o.kind=9) (fun P a o h=>Gm h) _ _ _ h
theorem Ce (X:Wd):(iU X).cf=X.cf:=by
 have hf:=lG X;unfold iU;simp only;rw [hf]
 rfl
theorem Fb (X:Wd):(jc X).1.cf=X.cf:=by
 unfold jc bV;rw [kT (g:=fun P:Wd×List Out=>P.1.cf) DS,kT (g:=fun P:Wd×List Out=>P.1.cf) due_cf];exact Ce X
theorem uK {X:Wd} {o:Out} (h:o∈(jc X).2):o.kind=6∨o.kind=5∨o.kind=9:=by
 unfold jc at h;rcases mI (p:=fun o=>o.kind=6∨o.kind=5∨o.kind=9) (fun P a o h=>Br h) _ _ _ h with h|h
 ·unfold bV at h;rcases mI (p:=fun o=>o.kind=6∨o.kind=5∨o.kind=9) (fun P a o h=>Gi h) _ _ _ h with h|h
  ·simp at h
  ·exact h
 ·exact h
theorem FB (X:Wd) (key:Nat):(gj X key).1.cf=X.cf:=by
 unfold gj
 split
 ·rfl
 ·split<;>rfl
theorem Gc (X:Wd) (e:Ev):(fj X e).1.cf=X.cf:=by
 unfold fj
 split
 ·rfl
 ·split
  ·exact qL _ _ 7 0
  ·split
   ·simp only
    split<;>rfl
   ·split
    ·rfl
    ·split
     ·rfl
     ·exact zF _ _ _
theorem wB {X:Wd} {e:Ev} {o:Out} (h:o∈(fj X e).2):o.kind≠1:=by
 unfold fj at h
 split at h
 ·simp at h;rw [h];simp
 ·split at h
  ·rcases ph h with h|h<;>rw [h]<;>decide
  ·split at h
   ·simp at h;rw [h];simp
   ·split at h
    ·simp at h;rw [h];simp
    ·split at h
     ·simp at h;rw [h];simp
     ·rcases wH h with h|h|h<;>rw [h]<;>decide
theorem ask_cf (X:Wd) (e:Ev):(um X e).1.cf=X.cf:=by
 unfold um jF;simp only
 split
 ·rfl
 ·split
  ·rfl
  ·rw [nj]
theorem zL {X:Wd} {e:Ev} {o:Out} (h:o∈(um X e).2):o.kind=8∨o.kind=9:=by
 unfold um jF at h;simp only at h
 split at h
 ·simp at h;rw [h];exact Or.inl rfl
 ·split at h
  ·simp at h;rcases h with h|h<;>rw [h]
   ·exact Or.inl rfl
   ·exact Or.inr rfl
  ·exact Q159
theorem Hi (X:Wd) (e:Ev):(mP X e).1.cf=X.cf:=by
 unfold mP
 split
 ·exact FB _ _
 ·split
  ·exact ask_cf _ _
  ·split
   ·exact Fb _
   ·exact Gc _ _
def jT (h:Hd):Prop:=0≤h.slot∧h.slot≤39∧0≤h.gen∧h.gen≤1048576
def ja (k:Int):Ev:=⟨1,k,0,0,false,0,0,0⟩
def gY (k:Int) (h:Hd) (g:Bool):Ev:=⟨k,0,h.slot,h.gen,g,0,0,0⟩
def fp (r b wt:Int):Ev:=⟨5,0,0,0,false,r,b,wt⟩
def lk (r b:Int):Ev:=⟨6,0,0,0,false,r,b,0⟩
def gX:Ev:=⟨7,0,0,0,false,0,0,0⟩
theorem FH {k:Int} (h0:0≤k) (h1:k≤4294967295):jJ (ja k) 0:=by
 refine Or.inr (Or.inr (Or.inr ⟨by simp [ja],?_,?_,rfl⟩))
 ·simp [nU,eG,zU,ja];omega
 ·simp [fV,ja,Ev.zero]
theorem ok_fl {k:Int} (hk:k=2∨k=3) {h:Hd} (hh:jT h):jJ (gY k h false) 0:=by
 obtain ⟨h0,h1,h2,h3⟩:=hh;refine Or.inr (Or.inr (Or.inr ⟨by simp only [gY];omega,?_,?_,rfl⟩))
 ·rcases hk with rfl|rfl<;>simp [nU,eG,zU,gY]<;>omega
 ·rcases hk with rfl|rfl<;>simp [fV,gY,Ev.zero]
theorem ok_ans {h:Hd} (hh:jT h) (g:Bool):jJ (gY 4 h g) 0:=by
 obtain ⟨h0,h1,h2,h3⟩:=hh;refine Or.inr (Or.inr (Or.inr ⟨by simp only [gY];omega,?_,?_,rfl⟩))
 ·simp [nU,eG,zU,gY];omega
 ·simp [fV,gY,Ev.zero]
theorem FI {r b wt:Int} (h0:0≤r) (h1:r≤1048576) (h2:0≤b) (h3:b≤11) (h4:1≤wt) (h5:wt≤8):jJ (fp r b wt) 0:=by
 refine Or.inr (Or.inr (Or.inr ⟨by simp [fp],?_,?_,rfl⟩))
 ·simp [nU,eG,zU,fp];omega
 ·simp [fV,fp,Ev.zero]
theorem ok_ret {r b:Int} (h0:0≤r) (h1:r≤1048576) (h2:0≤b) (h3:b≤11):jJ (lk r b) 0:=by
 refine Or.inr (Or.inr (Or.inr ⟨by simp [lk],?_,?_,rfl⟩))
 ·simp [nU,eG,zU,lk];omega
 ·simp [fV,lk,Ev.zero]
theorem FG:jJ gX 0:=by
 refine Or.inr (Or.inr (Or.inr ⟨by decide,?_,?_,rfl⟩))
 ·simp [nU,eG,zU,gX]
 ·simp [fV,gX,Ev.zero]
structure EvGood (e:Ev):Prop where
 ok:jJ e 0
 k0:0≤e.key
 k1:e.key≤4294967295
 r0:0≤e.request
 r1:e.request≤1048576
 b0:0≤e.backend
 b1:e.backend≤11
theorem EvGood.may {e:Ev} (h:EvGood e) {X:Wd} (hn:X.now<1099511626776):EvMay X e:=⟨h.k0,h.k1,h.r0,h.r1,h.b0,h.b1,fun _=>hn⟩
theorem Bl {k:Int} (h0:0≤k) (h1:k≤4294967295):EvGood (ja k):=⟨FH h0 h1,h0,h1,Int.le_refl 0,(by decide:(0:Int)≤1048576),Int.le_refl 0,(by decide:(0:Int)≤11)⟩
theorem zD {k:Int} (hk:k=2∨k=3) {h:Hd} (hh:jT h):EvGood (gY k h false):=⟨ok_fl hk hh,Int.le_refl 0,(by decide:(0:Int)≤4294967295),Int.le_refl 0,(by decide:(0:Int)≤1048576),Int.le_refl 0,(by decide:(0:Int)≤11)⟩
theorem DJ {h:Hd} (hh:jT h) (g:Bool):EvGood (gY 4 h g):=⟨ok_ans hh g,Int.le_refl 0,(by decide:(0:Int)≤4294967295),Int.le_refl 0,(by decide:(0:Int)≤1048576),Int.le_refl 0,(by decide:(0:Int)≤11)⟩
theorem sD {r b wt:Int} (h0:0≤r) (h1:r≤1048576) (h2:0≤b) (h3:b≤11) (h4:1≤wt) (h5:wt≤8):EvGood (fp r b wt):=⟨FI h0 h1 h2 h3 h4 h5,Int.le_refl 0,(by decide:(0:Int)≤4294967295),h0,h1,h2,h3⟩
theorem DI {r b:Int} (h0:0≤r) (h1:r≤1048576) (h2:0≤b) (h3:b≤11):EvGood (lk r b):=⟨ok_ret h0 h1 h2 h3,Int.le_refl 0,(by decide:(0:Int)≤4294967295),h0,h1,h2,h3⟩
theorem kR:EvGood gX:=⟨FG,by decide,by decide,by decide,by decide,by decide,by decide⟩
def pk (n m:Int):Int:=(if n<0 then -(n+1) else n) % m
theorem cU (n:Int) {m:Int} (h:0<m):0≤pk n m∧pk n m<m:=by
 unfold pk;exact ⟨Int.emod_nonneg _ (by omega),Int.emod_lt_of_pos _ h⟩
structure Dd where
 kind:Int
 a:Int
 b:Int
 c:Int
def EH (G:List Hd) (d:Dd):Hd:=if 0<G.length∧0<pk d.c 9 then G.getD (G.length - 1 - (pk d.a (min G.length 8:Nat)).toNat) ⟨0,0⟩ else ⟨pk d.a 8,pk d.b 3⟩
def Hg (G:List Hd) (d:Dd):Ev:=
 if pk d.kind 20<6 then ja (pk d.a 100)
 else if pk d.kind 20=6 then gY 2 (EH G d) false
 else if pk d.kind 20=7 then gY 3 (EH G d) false
 else if pk d.kind 20<12 then gY 4 (EH G d) (pk d.b 2 == 0)
 else if pk d.kind 20<14 then fp (pk d.a 30) (pk d.b 5) (1+pk d.c 8)
 else if pk d.kind 20=14 then lk (pk d.a 30) (pk d.b 5)
 else gX
theorem Ga {G:List Hd} (h:∀ x∈G,jT x) (d:Dd):jT (EH G d):=by
 unfold EH;by_cases hc:0<G.length∧0<pk d.c 9
 ·rw [if_pos hc];have hi:G.length - 1 - (pk d.a (min G.length 8:Nat)).toNat<G.length:=by omega
  rw [aN hi];exact h _ (If hi)
 ·rw [if_neg hc];have h1:=cU d.a (m:=8) (by decide);have h2:=cU d.b (m:=3) (by decide);unfold jT;simp only;omega
theorem qK {G:List Hd} (h:∀ x∈G,jT x) (d:Dd):EvGood (Hg G d):=by
 have hh:=Ga h d;have a1:=cU d.a (m:=100) (by decide);have a2:=cU d.a (m:=30) (by decide);have b1:=cU d.b (m:=5) (by decide);have c1:=cU d.c (m:=8) (by decide);unfold Hg
 split
 ·exact Bl a1.1 (by omega)
 ·split
  ·exact zD (Or.inl rfl) hh
  ·split
   ·exact zD (Or.inr rfl) hh
   ·split
    ·exact DJ hh _
    ·split
     ·exact sD a2.1 (by omega) b1.1 (by omega) (by omega) (by omega)
     ·split
      ·exact DI a2.1 (by omega) b1.1 (by omega)
      ·exact kR
structure Stp where
 ev:Ev
 be:Wd
 af:Wd
 out:List Out
structure lA where
 steps:List Stp
 last:Wd
 given:List Hd
def nN (O:List Out):List Hd:=(O.filter fun o=>o.kind == 1).map fun o=>⟨o.slot,o.gen⟩
def sI (p:lA) (e:Ev):lA:=⟨p.steps++[⟨e,p.last,(mP p.last e).1,(mP p.last e).2⟩],(mP p.last e).1,p.given++nN (mP p.last e).2⟩
def wK (p:lA) (d:Dd):lA:=sI p (Hg p.given d)
def begP (X:Wd):lA:=sI (sI (sI (sI ⟨[],X,[]⟩ (fp 1000 0 2)) (fp 1001 1 3)) (fp 1002 2 4)) gX
def iI (X:Wd) (L:List Dd) (most:Nat):lA:=(L.take most).foldl wK (begP X)
structure zO (c:Cf) (p:lA):Prop where
 wd:WdMay p.last
 cf:p.last.cf=c
 gi:∀ h∈p.given,jT h
 st:∀ s∈p.steps,WdMay s.be∧WdMay s.af∧EvGood s.ev∧EvMay s.be s.ev∧s.af=(mP s.be s.ev).1∧s.out=(mP s.be s.ev).2∧s.be.cf=c∧s.af.cf=c
 nw:p.last.now≤p.steps.length
theorem El {X:Wd} (h:GwMay X) {key:Nat}:∀ x∈nN (gj X key).2,jT x:=by
 intro x hx;unfold nN gj at hx
 split at hx
 ·simp at hx
 ·split at hx
  ·simp at hx
  ·rename_i h1 _
   rcases bJ fh X.tab Sl.zero with ⟨e,_⟩|⟨i,hi,e,_⟩
   ·omega
   ·simp [e] at hx;subst hx;have hs:=nm h.tb hi;have h40:=h.tb.2.1
    have hg:0≤(X.tab.getD i Sl.zero).gen∧(X.tab.getD i Sl.zero).gen≤1048576:=by
     unfold dw at hs
     split at hs<;>omega
    unfold jT;simp only [List.getD] at hg;simp only;omega
theorem kV {O:List Out} (h:∀ o∈O,o.kind≠1):nN O=[]:=by
 unfold nN;rw [List.filter_eq_nil_iff.2 (fun o ho=>by simpa using h o ho)]
 rfl
theorem acc_do {X:Wd} (h:GwMay X) (e:Ev):∀ x∈nN (mP X e).2,jT x:=by
 intro x hx;unfold mP at hx
 split at hx
 ·exact El h x hx
 ·split at hx
  ·rw [kV (fun o ho=>by rcases zL ho with g|g<;>rw [g]<;>decide)] at hx;simp at hx
  ·split at hx
   ·rw [kV (fun o ho=>by rcases uK ho with g|g|g<;>rw [g]<;>decide)] at hx;simp at hx
   ·rw [kV (fun o ho=>wB ho)] at hx;simp at hx
theorem do_now {X:Wd} (h:WdMay X) {e:Ev} (he:EvMay X e):(mP X e).1.now=if e.kind=7 then X.now+1 else X.now:=by
 unfold mP
 split
 ·rename_i h1
  rw [if_neg (by omega)];exact (se h.gw _).now
 ·split
  ·rename_i h1
   rw [if_neg (by omega)];exact (wV h.gw (pi X h1)).now
  ·split
   ·rename_i h1
    exact (zd h (he.tk h1)).2
   ·rename_i h1
    exact (sF h.gw e).now
theorem doP_ok {c:Cf} {p:lA} (h:zO c p) {e:Ev} (he:EvGood e) (hl:p.steps.length<1000000):zO c (sI p e):=by
 have hm:EvMay p.last e:=he.may (by have:=h.nw;omega);have hw:=Hh h.wd hm;have hc:=Hi p.last e;refine ⟨hw,hc.trans h.cf,fun x hx=>?_,fun s hs=>?_,?_⟩
 ·rcases List.mem_append.1 hx with hx|hx
  ·exact h.gi x hx
  ·exact acc_do h.wd.gw e x hx
 ·rcases List.mem_append.1 hs with hs|hs
  ·exact h.st s hs
  ·simp only [List.mem_singleton] at hs;subst hs;exact ⟨h.wd,hw,he,hm,rfl,rfl,h.cf,hc.trans h.cf⟩
 ·have h1:=do_now h.wd hm;have h2:=h.nw;show (mP p.last e).1.now≤((p.steps++[_]).length:Nat)
  rw [h1,Ic];simp only [List.length_singleton]
  split<;>omega
def nt (L:List Lf) (k:Nat):List Sp:=bO (dM (L.take k))
theorem CZ:dM []=List.replicate 12 0:=by decide
theorem Cp (L:List Lf):nt L 0=[]:=by
 unfold nt;rw [List.take_zero,CZ];exact List.Perm.eq_nil ((fe _).trans (List.Perm.of_eq (by decide)))
theorem D2 (A B:List Lf) (b:Int):dt (A++B) b=(dt A b).or (dt B b):=List.find?_append
theorem ss {L:List Lf} (hs:L.Pairwise fun a b=>a.backend<b.backend) {k:Nat} (hk:k<L.length):dt (L.take k) (L.getD k Lf.zero).backend=none:=by
 refine List.find?_eq_none.2 fun y hy=>?_;obtain ⟨j,hj,rfl⟩:=List.mem_iff_getElem.1 hy;rw [Ii] at hj;have:=List.pairwise_iff_getElem.1 hs j k (by omega) hk (by omega);rw [aN hk,List.getElem_take];simp [cE];omega
def wtA (x:Lf):Nat:=if x.state=2 then x.weight.toNat else 0
theorem qw {L:List Lf} (hs:L.Pairwise fun a b=>a.backend<b.backend) {k:Nat} (hk:k<L.length) (h0:0≤(L.getD k Lf.zero).backend) (h1:(L.getD k Lf.zero).backend≤11):(dM (L.take k)).getD (L.getD k Lf.zero).backend.toNat 0=0:=by
 rw [ff _ (by omega),Int.toNat_of_nonneg h0,ss hs hk]
theorem sr {L:List Lf} (hs:L.Pairwise fun a b=>a.backend<b.backend) {k:Nat} (hk:k<L.length) (h0:0≤(L.getD k Lf.zero).backend) (h1:(L.getD k Lf.zero).backend≤11):dM (L.take (k+1))=(dM (L.take k)).set (L.getD k Lf.zero).backend.toNat (wtA (L.getD k Lf.zero)):=by
 have hn:=ss hs hk;have e:L.take (k+1)=L.take k++[L.getD k Lf.zero]:=by rw [Ia hk,aN hk]
 rw [e];generalize L.getD k Lf.zero=x at h0 h1 hn;refine List.ext_getElem (by simp [cB]) fun b hb1 hb2=>?_
 have hb:b<12:=by rw [cB] at hb1;exact hb1
 rw [← aN hb1 0,← aN hb2 0,ff _ hb,cO (by rw [cB];omega),ff _ hb,D2,gC];by_cases hx:x.backend=(b:Int)
 ·rw [if_pos hx,if_pos (by omega),← hx,hn];simp only [Option.none_or,wtA]
 ·rw [if_neg hx,if_neg (by omega)];simp [dt]
theorem D0 {L:List Lf} (h:∀ x∈L,x.weight≤8) (b:Nat):(dM L).getD b 0≤8:=by
 by_cases hb:b<12
 ·rw [ff L hb]
  cases hl:dt L (b:Nat) with
  | none=>simp
  | some x=>
   have:=h x (dz hl).1;simp only
   split<;>omega
 ·exact Q129
theorem Co {L:List Lf} {R:List Rq} (h:bF L R) (k:Nat):RgMay (nt L k):=pP (cB _) (D0 fun _ hx=>(eO h (List.mem_of_mem_take hx)).2.2.2.1)
theorem rl_add {L:List Lf} {R:List Rq} (h:bF L R) {k:Nat} (hk:k<L.length) (hs:(L.getD k Lf.zero).state=2):yR (nt L k) (L.getD k Lf.zero).backend (L.getD k Lf.zero).weight (nt L (k+1)) 0:=by
 have hm:L.getD k Lf.zero∈L:=by rw [aN hk];exact If hk
 have hb:=eO h hm;have h0:=hb.1;have h1:=hb.2.1;have h2:=hb.2.2.1;have h3:=hb.2.2.2.1;refine Or.inr (Or.inr ⟨(L.getD k Lf.zero).backend.toNat,(L.getD k Lf.zero).weight.toNat,Co h k,by omega,by omega,by omega,by omega,by omega,Or.inr ⟨?_,?_,rfl⟩⟩)
 ·unfold nt;rw [iE (cB _)];exact qw (cG h) hk h0 h1
 ·unfold nt;rw [iE (cB _),sr (cG h) hk h0 h1];unfold wtA;rw [if_pos hs]
theorem Fn {L:List Lf} {R:List Rq} (h:bF L R) {k:Nat} (hk:k<L.length) (hs:(L.getD k Lf.zero).state≠2):nt L (k+1)=nt L k:=by
 have hm:L.getD k Lf.zero∈L:=by rw [aN hk];exact If hk
 have hb:=eO h hm;have h0:=hb.1;have h1:=hb.2.1;unfold nt;rw [sr (cG h) hk h0 h1];have hz:=qw (cG h) hk h0 h1;have e:wtA (L.getD k Lf.zero)=0:=if_neg hs;rw [e]
 congr 1
 exact rQ (d:=0) (by rw [cB];omega) hz
theorem rl_all {X:Wd} (h:GwMay X):nt X.lives X.lives.length=X.ring:=by unfold nt;rw [List.take_length];exact h.rg.symm
def uR (T:List Sl) (b:Int):List Int:=(iX T b T.length).map Hd.slot
theorem Gn {X:Wd} (h:GwMay X) {x:Lf} (hx:x∈X.lives) (h3:x.state=3):(gZ X.tab X.tab.length).getD x.backend.toNat 0≠0:=by
 have hb:=eO h.bk hx;have h0:=hb.1;have h1:=hb.2.1;obtain ⟨f,hf,hfb⟩:=h.dr x hx h3
 have hm:f.slot∈uR X.tab x.backend:=by
  have h2:=h.fl f hf;have s0:=h2.s0;have s1:=h2.s1;exact It.2 ⟨⟨f.slot.toNat,(X.tab.getD f.slot.toNat Sl.zero).gen⟩,iW.2 ⟨f.slot.toNat,by omega,by rw [h2.sl],by rw [h2.sl];exact hfb,rfl⟩,by simp only;omega⟩
 have hl:(gZ X.tab X.tab.length).getD x.backend.toNat 0=((iX X.tab x.backend X.tab.length).length:Int):=by
  rw [aN (by rw [gR];omega)];simp only [gZ,List.getElem_map,List.getElem_range];rw [Int.toNat_of_nonneg h0]
 rw [hl];intro e;have e':iX X.tab x.backend X.tab.length=[]:=List.length_eq_zero_iff.1 (by omega);unfold uR at hm;rw [e'] at hm;simp at hm
def dy (c:Cf):Wd:=⟨c,0,fS c.flows.toNat,[],[],[],[],List.replicate 12 Ht.zero,c.bb*c.bd,0,List.replicate 25 []⟩
theorem Ab:bK 0 []=List.replicate 25 []:=by
 refine List.ext_getElem (by rw [cV];simp) fun i h1 h2=>?_;rw [cV] at h1;rw [← aN (by rw [cV];exact h1) [],dQ 0 [] h1,List.getElem_replicate];exact List.Perm.eq_nil (di _)
theorem Cq:bO (dM [])=[]:=by
 have:=Cp [];unfold nt at this;simpa using this
theorem beg_wd {c:Cf} (h:ju c):WdMay (dy c):=by
 have hf:1≤c.flows∧c.flows≤40:=⟨h.1.2.2.1,h.1.2.2.2.1⟩;have hz:∀ s∈fS c.flows.toNat,s=Sl.zero:=fun s hs=>List.eq_of_mem_replicate hs;have hl:(fS c.flows.toNat).length=c.flows.toNat:=List.length_replicate
 have hh:∀ i,i<12→(dy c).health.getD i Ht.zero=Ht.zero:=fun i hi=>by
  show (List.replicate 12 Ht.zero).getD i Ht.zero=Ht.zero
  rw [aN (by simpa using hi),List.getElem_replicate]
 refine ⟨{ cf:=h,n0:=Int.le_refl 0,n1:=(by decide:(0:Int)≤1099511626776),tb:=?_,tl:=?_,bk:=?_,hl:=by simp [dy],ht:=fun i hi=>?_,ho:=fun i hi=>?_,t0:=?_,t1:=Int.le_refl _,rg:=Cq.symm,wn:=rfl,wl:=Ab.symm,so:=List.Pairwise.nil,fl:=fun f hf=>(by simp [dy] at hf),us:=fun s hs hu=>?_,dr:=fun x hx=>(by simp [dy] at hx),si:=fun x hx=>(by simp [dy] at hx) },fun f hf=>(by simp [dy] at hf),fun x hx=>(by simp [dy] at hx)⟩
 ·refine ⟨by show 1≤(fS c.flows.toNat).length;rw [hl];omega,by show (fS c.flows.toNat).length≤40;rw [hl];omega,fun s hs=>?_⟩;rw [hz s hs];simp [dw,Sl.zero]
 ·show ((fS c.flows.toNat).length:Int)=c.flows
  rw [hl];omega
 ·exact ⟨by simp [dy],by simp [dy],fun i hi=>by simp [dy] at hi,fun x hx=>by simp [dy] at hx,by simp [dy,gP]⟩
 ·rw [hh i hi];exact DB h.2.2 (Int.le_refl 0) (by decide:(0:Int)≤1099511627776) (zC (by have:=h.2.2.1;show 0≤c.ww;omega))
 ·rw [hh i hi];intro g;exact absurd g (by decide)
 ·show 0≤c.bb*c.bd
  have:=h.2.1;unfold i8 at this;exact Int.mul_nonneg (by omega) (by omega)
 ·have:(dy c).tab.getD s Sl.zero=Sl.zero:=by
   show (fS c.flows.toNat).getD s Sl.zero=Sl.zero
   rw [aN (show s<(fS c.flows.toNat).length from hs)];exact hz _ (If _)
  rw [this] at hu;exact absurd hu (by decide)
def EY (T:List Sl) (k:Nat):Nat:=((T.take k).filter Sl.used).length
theorem C9 {T:List Sl} {k:Nat} (h:k<T.length):EY T (k+1)=EY T k+(if (T.getD k Sl.zero).used=true then 1 else 0):=by
 unfold EY;rw [Ia h,List.filter_append,Ic,aN h]
 cases hu:T[k].used<;>simp [hu]
theorem usN_le (T:List Sl) (k:Nat):EY T k≤T.length:=by
 unfold EY;exact Iq (List.length_filter_le _ _) (by rw [Ii];omega)
theorem yh {α:Type} (L:List α) (d:α):L=(List.range L.length).map fun i=>L.getD i d:=by
 refine List.ext_getElem (by simp) fun i h1 h2=>?_;rw [List.getElem_map,List.getElem_range,aN h1]
theorem C8 {X:Wd} (h:GwMay X):(X.tab.filter Sl.used).length=X.flows.length:=by
 have e:(X.tab.filter Sl.used).length=((List.range X.tab.length).filter fun i=>(X.tab.getD i Sl.zero).used).length:=by
  conv=>lhs;rw [yh X.tab Sl.zero]
  rw [List.filter_map,I9]
  rfl
 have hp:((List.range X.tab.length).filter fun i=>(X.tab.getD i Sl.zero).used).Perm (X.flows.map fun f=>f.slot.toNat):=by
  refine (List.perm_ext_iff_of_nodup (List.nodup_range.sublist List.filter_sublist) ?_).2 fun i=>?_
  ·exact Q115
  ·rw [List.mem_filter,List.mem_range,It];constructor
   ·rintro ⟨hi,hu⟩;obtain ⟨f,hf,hs⟩:=h.us i hi hu;exact ⟨f,hf,by rw [hs];simp⟩
   ·rintro ⟨f,hf,rfl⟩;have h1:=h.fl f hf;have h0:=h1.s0;have h2:=h1.s1;exact ⟨by omega,by rw [h1.sl]⟩
 rw [e,hp.length_eq,I9]
theorem EX {X:Wd} (h:GwMay X):EY X.tab X.tab.length=X.flows.length:=by
 unfold EY;rw [List.take_length];exact C8 h
def EF (LL:List (List Tm)) (k:Nat):Nat:=(LL.take k).flatten.length
theorem D1 {LL:List (List Tm)} {k:Nat} (h:k<LL.length):EF LL (k+1)=EF LL k+(LL.getD k []).length:=by
 unfold EF;rw [Ia h,Il,Ic,aN h];simp
theorem te {X:Wd} (h:WdMay X):X.lists.flatten.length=X.flows.length:=by
 rw [h.gw.whp.length_eq];unfold ej;rw [I9,List.filter_eq_self.2 fun f hf=>by simpa using h.du f hf]
theorem gO {X:Wd} (h:GwMay X):X.lists.length=25:=h.wh.2.2.1
theorem FL {X:Wd} (h:WdMay X):EF X.lists 25=X.flows.length:=by
 unfold EF;rw [← gO h.gw,List.take_length];exact te h
theorem lnN_le (LL:List (List Tm)) (k:Nat):EF LL k≤LL.flatten.length:=by
 unfold EF
 conv=>rhs;rw [← Io k LL,Il,Ic]
 omega
theorem tm_any {X:Wd} (h:WdMay X) {f:Fl} (hf:f∈X.flows):(List.range 25).any (fun i=>decide ((⟨f.due,f.slot⟩:Tm)∈X.lists.getD i []))=true:=by
 have hm:(⟨f.due,f.slot⟩:Tm)∈X.lists.flatten:=by
  rw [h.gw.whp.mem_iff];exact It.2 ⟨f,List.mem_filter.2 ⟨hf,by simpa using h.du f hf⟩,rfl⟩
 obtain ⟨l,hl,ht⟩:=List.mem_flatten.1 hm;obtain ⟨i,hi,rfl⟩:=qv hl [];rw [List.any_eq_true];refine ⟨i,List.mem_range.2 (by have:=gO h.gw;omega),?_⟩;simpa using ht
def yF (F:List Fl) (k:Nat):Int:=if k=0 then -1 else (F.getD (k - 1) Fl.zero).slot
theorem Ec (F:List Fl):yF F 0=-1:=rfl
theorem yE (F:List Fl) (k:Nat):yF F (k+1)=(F.getD k Fl.zero).slot:=by simp [yF]
theorem Gv {X:Wd} (h:GwMay X) {k:Nat} (hk:k<X.flows.length):yF X.flows k<(X.flows.getD k Fl.zero).slot:=by
 cases k with
 | zero=>
  have:=(h.fl _ (h.at_ hk)).s0;rw [Ec];omega
 | succ j=>
  rw [yE,aN (by omega),aN hk];exact List.pairwise_iff_getElem.1 h.so j (j+1) (by omega) hk (by omega)
theorem Gx {X:Wd} (h:GwMay X) {k:Nat} (hk:k≤X.flows.length):-1≤yF X.flows k:=by
 cases k with
 | zero=>rw [Ec];omega
 | succ j=>
  rw [yE];have:=(h.fl _ (h.at_ (show j<X.flows.length by omega))).s0;omega
theorem vd {p:Nat} {w:World} {X:Wd} {V:Vs} (h:GR p w X V) (hm:WdMay X) :
  Calls Tryz.prog 46 #[.pointer (some ⟨p,0,none⟩)] w fun e w'=>e=.returned (.bool true)∧Below w.heap.size w w':=by
 have HR:=Hu h
 have HX:=Hu hm
 have hp:=h.2.2.2.1
 have x17:=h.c 17 (v:=V.t) rfl
 have x18:=h.c 18 (v:=V.f) rfl
 have x25:=h.c 25 (v:=V.w) rfl
 have x8:=h.c 8 (v:=.int .i64 X.cf.retries) rfl
 obtain ⟨aT,cT,eT,_,_,_,pT⟩:=aK Sl.zero h.1.ta.1
 obtain ⟨aF,cF,eF,_,_,_,pF⟩:=aK Fl.zero h.2.1
 obtain ⟨VL,hv1,hv2,hv3⟩:=h.1.wh
 obtain ⟨aL,cL,eL,_,_,_,pL⟩:=aK undef hv2.1
 rw [hv1,gO hm.gw] at eL
 rw [eT] at x17
 rw [eF] at x18
 rw [eL] at x25
 have RT:=Hu (show aI w 4 (.slice aT X.tab.length cT) (X.tab.map Sl.cells) by have:=h.1.ta.1;rw [eT] at this;exact this)
 have RL:=Hu (show aI w 1 (.slice aL 25 cL) (VL.map fun x=>[x]) by have:=hv2.1;rw [eL] at this;exact this)
 have Y:=Hu (And.intro x17 (And.intro x18 (And.intro x25 x8)))
 have PT:=Hu pT
 have PF:=Hu pF
 have PL:=Hu pL
 have HV:=Hu (And.intro hv1 hv3)
 have n40:=hm.gw.tb.2.1
 have f40:=hm.gw.len
 have HU:=Hu (EX hm.gw)
 have HN:=Hu (FL hm)
 have keep:∀ wr,Below w.heap.size w wr→GR p wr X V:=fun wr hb=>fM h hb
 have HK:=Hu keep
 clear h hm eT eF eL hv1 hv2 hv3 pT pF pL keep
 go_enter Tryz.func46,Tryz.ntmps46
 go_wp2_with fail
 go_loopw [3,23] (fun u i wr=>∃ k:Nat,k≤X.tab.length∧i=.int .i64 k∧u=.int .i64 (EY X.tab k:Nat)∧Below w.heap.size w wr) (fun _ i _=>X.tab.length - (intOf i).toNat)
 case atStart=>exact ⟨0,I4 _,rfl,by simp [EY],Hv _ _⟩
 case round=>
  obtain ⟨k,hk,rfl,rfl,hbel⟩:=hrel;rcases (show k<X.tab.length∨k=X.tab.length by omega) with hlt|rfl
  ·have hlt':(k:Int)<(X.tab.length:Int):=by omega
   have k0:(0:Int)≤(k:Int):=by omega
   have hus:=usN_le X.tab k;have hst:=C9 hlt;obtain ⟨b1,o1,rfl,hb1,q1⟩:=PT.out (by intro e;rw [e] at hlt;simp at hlt);have a0:=(hbel.cell (p:=⟨b1,o1+k*4+0,none⟩) hb1).trans (q1 k 0 hlt (by omega));have a1:=(hbel.cell (p:=⟨b1,o1+k*4+1,none⟩) hb1).trans (q1 k 1 hlt (by omega));have a2:=(hbel.cell (p:=⟨b1,o1+k*4+2,none⟩) hb1).trans (q1 k 2 hlt (by omega));have a3:=(hbel.cell (p:=⟨b1,o1+k*4+3,none⟩) hb1).trans (q1 k 3 hlt (by omega));have HB:=Hu hbel;have hz:=hbel.size;generalize X.tab.getD k Sl.zero=s at a0 a1 a2 a3 hst;obtain ⟨s0,s1,s2,s3⟩:=s;simp only [Sl.cells,I5,I6,Nat.add_zero] at a0 a1 a2 a3 hst;clear q1 hbel
   cases s1 with
   | true=>
    rw [if_pos rfl] at hst;have HS:=Hu hst;clear hst;go_wp2;go_roundw
    case rel=>exact ⟨k+1,by omega,by go_num,by rw [HS.out];go_num,HB.out.alloc hz _⟩
    case measure=>simp [intOf];omega
   | false=>
    rw [if_neg (by simp)] at hst;have HS:=Hu hst;clear hst;go_wp2;go_roundw
    case rel=>exact ⟨k+1,by omega,by go_num,by rw [HS.out];rfl,HB.out.alloc hz _⟩
    case measure=>simp [intOf];omega
  ·have hge:¬ (X.tab.length:Int)<(X.tab.length:Int):=by omega
   rw [HU.out];have x25:=ah hbel Y.out.2.2.1 hp;have x18:=ah hbel Y.out.2.1 hp;have HB:=Hu hbel;have hz:=hbel.size;clear hbel;go_wp2_with fail;go_loopw [6,39] (fun u i wr=>∃ k:Nat,k≤25∧i=.int .i64 k∧u=.int .i64 (EF X.lists k:Nat)∧Below w.heap.size w wr) (fun _ i _=>25 - (intOf i).toNat)
   case atStart=>exact ⟨0,I4 _,rfl,by simp [EF],HB.out⟩
   case round=>
    obtain ⟨k,hk,rfl,rfl,hbel⟩:=hrel;rcases (show k<25∨k=25 by omega) with hlt|rfl
    ·have hlt':(k:Int)<25:=by omega
     have k0:(0:Int)≤(k:Int):=by omega
     have hL25:=gO HX.out.gw;have hlt2:k<X.lists.length:=by omega
     have hst:=D1 hlt2;have hle:=lnN_le X.lists (k+1);have hfl:=te HX.out;obtain ⟨b1,o1,rfl,hb1,q1⟩:=PL.out (by intro e;have:=HV.out.1;rw [e] at this;simp at this;omega);have a0:=(hbel.cell (p:=⟨b1,o1+k*1+0,none⟩) hb1).trans (q1 k 0 (by rw [HV.out.1];exact hlt2) (by omega));have hrow:=(HV.out.2 k hlt2).1;obtain ⟨vv,hvv⟩:∃ vv,vv=VL.getD k undef:=⟨_,rfl⟩;obtain ⟨ll,hll⟩:∃ ll,ll=X.lists.getD k []:=⟨_,rfl⟩;rw [← hll] at hst hrow;rw [← hvv] at hrow a0;obtain ⟨av,cv,rfl,_⟩:=aq hrow;simp only [I5,Nat.add_zero,Nat.mul_one] at a0;have HS:=Hu hst;have HB:=Hu hbel;have hz:=hbel.size;have hsm:EF X.lists k+ll.length≤40:=by omega
     clear hst hle hfl hL25 hlt2 q1 hrow hvv hll hbel;go_wp2;go_roundw
     case rel=>exact ⟨k+1,by omega,by go_num,by rw [HS.out];go_num,HB.out⟩
     case measure=>simp [intOf];omega
    ·have hge:¬ ((25:Nat):Int)<25:=by omega
     rw [HN.out];have x18:=ah hbel Y.out.2.1 hp
     have hp1:p<wr.heap.size:=by have:=hbel.size;omega
     have HB:=Hu hbel;have hz:=hbel.size;clear hbel;go_wp2_with fail;go_loopw [9,72] (fun u i wr=>∃ k:Nat,k≤X.flows.length∧i=.int .i64 k∧u=.int .i64 (yF X.flows k)∧Below w.heap.size w wr) (fun _ i _=>X.flows.length - (intOf i).toNat)
     case atStart=>exact ⟨0,I4 _,rfl,rfl,HB.out⟩
     case round=>
      obtain ⟨k,hk,rfl,rfl,hbel⟩:=hrel;rcases (show k<X.flows.length∨k=X.flows.length by omega) with hlt|rfl
      ·have hlt':(k:Int)<(X.flows.length:Int):=by omega
       have k0:(0:Int)≤(k:Int):=by omega
       obtain ⟨b1,o1,rfl,hb1,q1⟩:=PF.out (by intro e;rw [e] at hlt;simp at hlt);have hbf:=Gv HX.out.gw hlt;have hlo:=Gx HX.out.gw hk;have hsu:=yE X.flows k;have hfm:=HX.out.gw.at_ hlt;have hff:=HX.out.gw.fl _ hfm;have hget:=HX.out.gw.get hfm;have hany:=tm_any HX.out hfm;have hr0:=hff.r0;have hr1:=hff.r1;have hst:=hff.st;obtain ⟨_,_,_,_,n1,n2,n3,n4,n5,n6⟩:=HX.out.gw.num hfm;have a0:=(hbel.cell (p:=⟨b1,o1+k*7+0,none⟩) hb1).trans (q1 k 0 hlt (by omega));have a1:=(hbel.cell (p:=⟨b1,o1+k*7+1,none⟩) hb1).trans (q1 k 1 hlt (by omega));have a2:=(hbel.cell (p:=⟨b1,o1+k*7+2,none⟩) hb1).trans (q1 k 2 hlt (by omega));have a3:=(hbel.cell (p:=⟨b1,o1+k*7+3,none⟩) hb1).trans (q1 k 3 hlt (by omega));have a4:=(hbel.cell (p:=⟨b1,o1+k*7+4,none⟩) hb1).trans (q1 k 4 hlt (by omega));have a5:=(hbel.cell (p:=⟨b1,o1+k*7+5,none⟩) hb1).trans (q1 k 5 hlt (by omega));have a6:=(hbel.cell (p:=⟨b1,o1+k*7+6,none⟩) hb1).trans (q1 k 6 hlt (by omega));obtain ⟨f,hf⟩:∃ f,f=X.flows.getD k Fl.zero:=⟨_,rfl⟩;rw [← hf] at a0 a1 a2 a3 a4 a5 a6 hbf hsu hget hany hr0 hr1 hst n1 n2 n3 n4 n5 n6;obtain ⟨f0,f1,f2,f3,f4,f5,f6⟩:=f;simp only [Fl.cells,I5,I6,Nat.add_zero] at a0 a1 a2 a3 a4 a5 a6 hbf hsu hget hany hr0 hr1 hst n1 n2 n3 n4 n5 n6;have HSu:=Hu hsu;have HGe:=Hu hget;have HAn:=Hu hany;have HSt:=Hu hst;have HBz:=Hu hbel;have hz:=hbel.size;have hp1:p<wr.heap.size:=by omega
       clear hsu hget hany hst hff hfm hf q1 hbel;go_wp2_with fail;refine aY _ (fun wb hwb=>?_)
       have bwb:Below w.heap.size w wb:=by rw [hwb];exact HBz.out.alloc hz _
       obtain ⟨bf,hbfe⟩:∃ bf,bf=wr.heap.size:=⟨_,rfl⟩
       have hbb:wb.heap[bf]?=some (.cells #[.int .i64 f0,.int .i64 f1,.int .i64 f2,.int .i64 f3,.bool f4,.int .i64 f5,.int .i64 f6] 98 (0,0)):=by rw [hwb];exact az _ hbfe
       have lbf:=lt_of_block hbb
       have hpb:p<wb.heap.size:=by rw [hwb];simp;omega
       have hbp:bf≠p:=by omega
       have hpn:bf≠p:=hbp;have e0:wb.cell? ⟨bf,0,none⟩=some (.int .i64 f0):=ae hbb 0;have e1:wb.cell? ⟨bf,1,none⟩=some (.int .i64 f1):=ae hbb 1;have x17:=ah bwb Y.out.1 hp;have HBb:=Hu (And.intro bwb hbb);rw [← hbfe];clear hwb hbfe bwb hbb a0 a1 a2 a3 a4 a5 a6 x18;have HTb:=Hu (au RT.out HBb.out.1);refine Hc (P:=?jP1) (F:=fun nb wz=>Below wb.heap.size wb wz∧wz.heap[nb]?=some (.cells #[.int .i64 f1,.bool true,.int .i64 f2,.int .i64 f3] 143 (0,0))∧wb.heap.size≤nb) (fun key=>?jm1) ?jr1
       case jm1=>
        refine Zr (fun w':World=>w'.cell? ⟨p,17,none⟩=some (.slice aT X.tab.length cT)∧w'.cell? ⟨bf,0,none⟩=some (.int .i64 f0)∧w'.cell? ⟨bf,1,none⟩=some (.int .i64 f1)) (fun hHeld=>?_);refine eP 0 ?_;refine df 4 ?_;refine Zt 6 ?_;refine Z2 7 11 (fun K hK=>?_) (fun K hK=>?_);(focus (go_simp;(go_at_call 76;refine (fW X.tab f0 f1 ⟨f1,true,f2,f3⟩ 0 _ _ (au HTb.out Zb) HGe.out).mono ?_;rintro e w2 ⟨rfl,hb2⟩;have hz2:=hb2.size;(try simp at hz2);(try (have bxb:=aj hb2 (cJ wb _) (dL wb _);have bx0:w2.cell? ⟨wb.heap.size,0,none⟩=some (.int .i64 0):=ae bxb 0;have bx1:w2.cell? ⟨wb.heap.size,1,none⟩=some (.bool false):=ae bxb 1;have bx2:w2.cell? ⟨wb.heap.size,2,none⟩=some (.int .i64 0):=ae bxb 2;have bx3:w2.cell? ⟨wb.heap.size,3,none⟩=some (.int .i64 0):=ae bxb 3;have bxf:∀ n,w2.frozen? ⟨wb.heap.size,n,none⟩=false:=ap bxb));(try dsimp only));(try go_wp2_with fail);refine Zk hK fun hHeld=>?_;clear hK K;refine df 8 ?_;refine Zt 10 ?_;refine Z1 11 (fun K hK=>?_);go_simp;refine Zk hK fun hHeld=>?_;clear hK K));rotate_left 1;(focus (go_simp;refine Zk hK fun hHeld=>?_;clear hK K;refine Z1 7 (fun K hK=>?_);go_simp;(go_at_call 76;refine (fW X.tab f0 f1 ⟨f1,true,f2,f3⟩ 0 _ _ (au HTb.out Zb) HGe.out).mono ?_;rintro e w2 ⟨rfl,hb2⟩;have hz2:=hb2.size;(try simp at hz2);(try (have bxb:=aj hb2 (cJ wb _) (dL wb _);have bx0:w2.cell? ⟨wb.heap.size,0,none⟩=some (.int .i64 0):=ae bxb 0;have bx1:w2.cell? ⟨wb.heap.size,1,none⟩=some (.bool false):=ae bxb 1;have bx2:w2.cell? ⟨wb.heap.size,2,none⟩=some (.int .i64 0):=ae bxb 2;have bx3:w2.cell? ⟨wb.heap.size,3,none⟩=some (.int .i64 0):=ae bxb 3;have bxf:∀ n,w2.frozen? ⟨wb.heap.size,n,none⟩=false:=ap bxb));(try dsimp only));(try go_wp2_with fail);refine Zk hK fun hHeld=>?_;clear hK K;refine df 8 ?_;refine Zt 10 ?_));rotate_left 1;(all_goals (refine Z1 12 (fun K hK=>?_);go_simp;refine Zk hK fun hHeld=>?_;clear hK K;refine Zt 13 ?_));(all_goals refine Zd ?_)
        ·refine aY _ (fun wz hwz=>?_)
         have hbz:Below wb.heap.size wb wz:=by rw [hwz];exact (I0 (Hx (Hv _ _)) (hb2.mono (by simp))).alloc (by omega) _
         obtain ⟨nb,hnb⟩:∃ nb,nb=w2.heap.size:=⟨_,rfl⟩;rw [← hnb];exact key nb wz ⟨hbz,by rw [hwz];exact az _ hnb,by omega⟩
        ·refine aY _ (fun wz hwz=>?_);have hba:Below wb.heap.size wb w2:=I0 (Hx ((Hv _ _).alloc (I3 _) _)) (hb2.mono (by simp));have hle:=I3 wb.heap.size
         have hbz:Below wb.heap.size wb wz:=by rw [hwz];exact (((hba.setCell hle _).setCell hle _).setCell hle _).setCell hle _
         obtain ⟨nb,hnb⟩:∃ nb,nb=wb.heap.size:=⟨_,rfl⟩;rw [← hnb];exact key nb wz ⟨hbz,by rw [hwz,hnb];exact aP (aP (aP (aP bxb _) _) _) _,by omega⟩
       case jr1=>
        rintro nb wz ⟨hbz,hnb,hnl⟩;have bzw:Below w.heap.size w wz:=HBb.out.1.trans (hbz.mono HBb.out.1.size);have hbf':=aj hbz HBb.out.2 lbf;have y0:wz.cell? ⟨bf,0,none⟩=some (.int .i64 f0):=ae hbf' 0;have y2:wz.cell? ⟨bf,2,none⟩=some (.int .i64 f2):=ae hbf' 2;have y3:wz.cell? ⟨bf,3,none⟩=some (.int .i64 f3):=ae hbf' 3;have y5:wz.cell? ⟨bf,5,none⟩=some (.int .i64 f5):=ae hbf' 5;have y6:wz.cell? ⟨bf,6,none⟩=some (.int .i64 f6):=ae hbf' 6;have s2:wz.cell? ⟨nb,2,none⟩=some (.int .i64 f2):=ae hnb 2;have s3:wz.cell? ⟨nb,3,none⟩=some (.int .i64 f3):=ae hnb 3;have x8:=ah bzw Y.out.2.2.2 hp;have lnb:=lt_of_block hnb;have lbz:=lt_of_block hbf'
        have hpz:p<wz.heap.size:=by have:=bzw.size;omega
        have hng:¬ f0≤yF X.flows k:=by omega
        have HZ:=Hu (And.intro bzw hbf');clear hbz hnb hnl bzw hbf' e0 e1 x17;go_wp2_with fail;go_quiet ((go_at_call 36;exact Calls.quiet_of_same ((lE _ _ _ _ hr0 hr1).mono (fun _ _ h=>⟨h.1,h.2.symm⟩))));go_wp2_with fail;refine eV _ (fun wc hwc=>?_)
        have bwc:Below wz.heap.size wz wc:=by rw [hwc];exact aJ (Hv _ _)
        have bww:=HZ.out.1.trans (bwc.mono HZ.out.1.size);have HC:=Hu (And.intro bww (aj bwc HZ.out.2 lbz));refine (dY (HK.out wc bww) f3 HX.out.gw.bk).mono ?_;rintro e w3 ⟨rfl,hb3⟩;have b3w:=HC.out.1.trans (hb3.mono HC.out.1.size);have hb3':=aj hb3 HC.out.2 (lt_of_block HC.out.2);have y6:w3.cell? ⟨bf,6,none⟩=some (.int .i64 f6):=ae hb3' 6;have x25:=ah b3w Y.out.2.2.1 hp;have l3:=lt_of_block hb3'
        have hp3:p<w3.heap.size:=by have:=b3w.size;omega
        have H3:=Hu b3w;obtain ⟨st,hst⟩:∃ st,st=gL X.lives f3:=⟨_,rfl⟩;have hst':=HSt.out;rw [← hst] at hst' ⊢;clear hwc bwc bww hb3 b3w hb3' hst y0 y2 y3 y5 s2 s3 x8 hng lnb lbz hpz;rcases hst' with rfl|rfl
        all_goals
         go_wp2_with fail
         refine eV _ (fun wd hwd=>?_)
         have bd:Below w3.heap.size w3 wd:=by rw [hwd];exact (Hv _ _).alloc (I3 _) _
         have hbt:wd.heap[w3.heap.size]?=some (.cells #[.int .i64 f6,.int .i64 f0] 156 (0,0)):=by rw [hwd];exact az _ rfl
         have bdw:=H3.out.trans (bd.mono H3.out.size)
         have t0:wd.cell? ⟨w3.heap.size,0,none⟩=some (.int .i64 f6):=ae hbt 0
         have t1:wd.cell? ⟨w3.heap.size,1,none⟩=some (.int .i64 f0):=ae hbt 1
         have lbt:=lt_of_block hbt
         have hVl:VL.length=25:=by rw [HV.out.1];exact gO HX.out.gw
         have hct:=DX 91 ⟨w3.heap.size,0,none⟩ (fun _ _=>rfl) (fun i=>decide ((⟨f6,f0⟩:Tm)∈X.lists.getD i [])) (.slice aL 25 cL) VL wd (au RL.out bdw) (by omega)
          (fun i hi w' hb'=>flows1 (VL.getD i undef) (X.lists.getD i []) ⟨f6,f0⟩ w3.heap.size w' (au (HV.out.2 i (by rw [← HV.out.1];exact hi)).1 (bdw.trans (hb'.mono bdw.size))) (ah hb' t0 lbt) (ah hb' t1 lbt)) (by rw [hVl];exact HAn.out)
         refine hct.mono ?_
         rintro e w4 ⟨rfl,hb4⟩
         have H4:=Hu (bdw.trans (hb4.mono bdw.size))
         clear hct hwd bd hbt bdw t0 t1 hb4 x25 y6
         go_wp2
         go_roundw
         case rel=>exact ⟨k+1,by omega,by go_num,by rw [HSu.out],H4.out⟩
         case measure=>simp [intOf];omega
      ·have hge:¬ (X.flows.length:Int)<(X.flows.length:Int):=by omega
       have HB:=Hu hbel;clear hbel;go_wp2
       all_goals first|(go_ret;exact ⟨rfl,HB.out⟩)|exact Zx
structure LvS (w w1:World) (L:List Lf) (k:Nat) (wr:World):Prop where
 be:Below w.heap.size w wr
 rg:∃ a c,wr.heap[w.heap.size]?=some (.cells #[.slice a (nt L k).length c] 55 (0,0))∧dd (fun b=>w.heap.size<b) wr 2 (.slice a (nt L k).length c) ((nt L k).map Sp.cells)
 kp:Kp (w.heap.size+1) w1 wr
theorem LvS.keep {w w1 wr wr':World} {L:List Lf} {k:Nat} (h:LvS w w1 L k wr) (hb:Below wr.heap.size wr wr'):LvS w w1 L k wr':=by
 obtain ⟨a,c,h1,h2⟩:=h.rg;exact ⟨h.be.trans (hb.mono h.be.size),⟨a,c,aj hb h1 (lt_of_block h1),bG h2 hb.size (fun b hb' _=>hb.block b hb')⟩,h.kp.trans (Kp.of_below hb)⟩
theorem LvS.step {w w1 wr wr':World} {L:List Lf} {k:Nat} (h:LvS w w1 L k wr) (e:nt L (k+1)=nt L k) (hb:Below wr.heap.size wr wr'):LvS w w1 L (k+1) wr':=by
 have:=h.keep hb;obtain ⟨a,c,h1,h2⟩:=this.rg;exact ⟨this.be,⟨a,c,by rw [e];exact h1,by rw [e];exact h2⟩,this.kp⟩
theorem LvS.new {w w1 wr wr':World} {L:List Lf} {k:Nat} {a:Option Addr} {c:Nat} (h:LvS w w1 L k wr) (hb:Below wr.heap.size wr wr') (r:aM wr.heap.size wr' 2 (.slice a (nt L (k+1)).length c) ((nt L (k+1)).map Sp.cells)) :
  LvS w w1 L (k+1) (wr'.setCell ⟨w.heap.size,0,none⟩ (.slice a (nt L (k+1)).length c)):=by
 obtain ⟨a',c',h1,h2⟩:=h.rg
 have hlt:=lt_of_block h1
 have hk:=(h.keep hb)
 obtain ⟨a2,c2,k1,_⟩:=hk.rg
 refine ⟨hk.be.setCell (I3 _) _,⟨a,c,aP k1 _,?_⟩,hk.kp.set (Nat.lt_succ_self _) _ _⟩
 exact bG (bQ (eu r) (fun b _ hb'=>(by omega:w.heap.size<b))) (by simp) (fun b _ hb'=>I2 _ _ _ _ (fun e:b=w.heap.size=>by omega))
theorem uZ {p:Nat} {w:World} {X:Wd} {V:Vs} (h:GR p w X V) (hm:WdMay X) :
  Calls Tryz.prog 47 #[.pointer (some ⟨p,0,none⟩)] w fun e w'=>e=.returned (.bool true)∧Below w.heap.size w w':=by
 have HX:=Hu hm
 have hp:=h.2.2.2.1
 have x17:=h.c 17 (v:=V.t) rfl
 have x19:=h.c 19 (v:=V.l) rfl
 have x21:=h.c 21 (v:=V.s) rfl
 have x16:=h.c 16 (v:=.int .i64 X.now) rfl
 obtain ⟨aT,cT,eT,_,_,_,pT⟩:=aK Sl.zero h.1.ta.1
 obtain ⟨aL,cL,eL,_,_,_,pL⟩:=aK Lf.zero h.1.li.1
 obtain ⟨aS,cS,eS,_⟩:=aq h.1.sp.1
 rw [eT] at x17
 rw [eL] at x19
 rw [eS] at x21
 have RT:=Hu (show aI w 4 (.slice aT X.tab.length cT) (X.tab.map Sl.cells) by have:=h.1.ta.1;rw [eT] at this;exact this)
 have RS:=Hu (show aI w 2 (.slice aS X.ring.length cS) (X.ring.map Sp.cells) by have:=h.1.sp.1;rw [eS] at this;exact this)
 obtain ⟨bT,oT,rfl,hbT,qT⟩:=pT (by intro e;have:=hm.gw.tb.1;rw [e] at this;simp at this)
 have QT:=Hu qT
 have PL:=Hu pL
 have Y:=Hu (And.intro x19 (And.intro x21 x16))
 have n12:X.lives.length≤12:=hm.gw.bk.1
 clear h hm eT eL eS pT pL qT
 go_enter Tryz.func47,Tryz.ntmps47
 go_wp2_with fail
 refine eV _ (fun wa hwa=>?_)
 have ba:Below w.heap.size w wa:=by rw [hwa];exact (Hv _ _).alloc (I3 _) _
 have ka:wa.heap[w.heap.size]?=some (.cells #[.slice none 0 0] 55 (0,0)):=by rw [hwa];exact az _ rfl
 have za:wa.heap.size=w.heap.size+1:=by rw [hwa];simp
 refine (jN bT oT cT X.tab wa (by omega) HX.out.gw.tb (au RT.out ba) (fun i j hi hj=>(ba.cell (p:=⟨bT,_,none⟩) hbT).trans (QT.out i j hi hj))).mono ?_
 rintro e w1 ⟨vc,rfl,rc,hb1⟩
 have b1:=ba.trans (hb1.mono ba.size)
 have k1:=aj hb1 ka (lt_of_block ka)
 obtain ⟨vca,vcc,rfl,_,_,_,pC⟩:=aK (0:Int) rc.1
 rw [gR] at *
 obtain ⟨bC,oC,rfl,hbC,qC⟩:=pC (by intro e;have:=gR X.tab X.tab.length;rw [e] at this;simp at this)
 have hbC2:w.heap.size<bC:=by have:=rc.2 _ _ _ rfl;simp only at this;omega
 have QC:=Hu qC
 have x19:=ah b1 Y.out.1 hp
 have hp1:p<w1.heap.size:=by have:=b1.size;omega
 have S0:=Hu (show LvS w w1 X.lives 0 w1 from ⟨b1,⟨none,0,by rw [Cp];exact k1,by rw [Cp];exact ⟨ix _ _,fun b o n c e _=>by cases e⟩⟩,Kp.refl _ _⟩)
 clear hwa ba ka za rc hb1 b1 k1 pC qC x16 x21 x17
 go_wp2_with fail
 go_loopw [25] (fun i wr=>∃ k:Nat,k≤X.lives.length∧i=.int .i64 k∧LvS w w1 X.lives k wr) (fun i _=>X.lives.length - (intOf i).toNat)
 case atStart=>exact ⟨0,I4 _,rfl,S0.out⟩
 case round=>
  obtain ⟨k,hk,rfl,hs⟩:=hrel;have HS:=Hu hs;have hbel:=hs.be;have hz:=hbel.size;have hpr:p<wr.heap.size:=by omega
  rcases (show k<X.lives.length∨k=X.lives.length by omega) with hlt|rfl
  ·have hlt':(k:Int)<(X.lives.length:Int):=by omega
   have k0:(0:Int)≤(k:Int):=by omega
   obtain ⟨b1,o1,rfl,hb1,q1⟩:=PL.out (by intro e;rw [e] at hlt;simp at hlt)
   have hm:X.lives.getD k Lf.zero∈X.lives:=by rw [aN hlt];exact If hlt
   have hbk:=eO HX.out.gw.bk hm;have hsi:=HX.out.gw.si _ hm;have hun:=HX.out.un _ hm;have hcp:=Gn HX.out.gw hm;have had:=rl_add HX.out.gw.bk hlt;have hke:=Fn HX.out.gw.bk hlt;have hrl:=js (Co HX.out.gw.bk k);have a0:=(hbel.cell (p:=⟨b1,o1+k*6+0,none⟩) hb1).trans (q1 k 0 hlt (by omega));have a1:=(hbel.cell (p:=⟨b1,o1+k*6+1,none⟩) hb1).trans (q1 k 1 hlt (by omega));have a2:=(hbel.cell (p:=⟨b1,o1+k*6+2,none⟩) hb1).trans (q1 k 2 hlt (by omega));have a3:=(hbel.cell (p:=⟨b1,o1+k*6+3,none⟩) hb1).trans (q1 k 3 hlt (by omega));have a4:=(hbel.cell (p:=⟨b1,o1+k*6+4,none⟩) hb1).trans (q1 k 4 hlt (by omega));have a5:=(hbel.cell (p:=⟨b1,o1+k*6+5,none⟩) hb1).trans (q1 k 5 hlt (by omega));have x16:=ah hbel Y.out.2.2 hp;obtain ⟨x,hx⟩:∃ x,x=X.lives.getD k Lf.zero:=⟨_,rfl⟩;rw [← hx] at a0 a1 a2 a3 a4 a5 hbk hsi hun hcp had hke;obtain ⟨x0,x1,x2,x3,x4,x5⟩:=x;simp only [Lf.cells,I5,I6,Nat.add_zero] at a0 a1 a2 a3 a4 a5 hbk hsi hun hcp had hke;obtain ⟨h0,h1,h2,h3,h4,h5,h6,h7,h8,h9,hst⟩:=hbk;simp only at h0 h1 h2 h3 hst;have HCp:=Hu hcp;have HAd:=Hu had;have HKe:=Hu hke;have HUn:=Hu hun;have nsi:¬ X.now<x3:=by omega
   have hst4:x1=1∨x1=2∨x1=3∨x1=4:=by omega
   clear hm hx hcp had hke hun hst q1 h4 h5 h6 h7 h8 h9 hs;obtain ⟨n0,rfl⟩:=Ih h0;obtain ⟨ra,rc,hr1,hr2⟩:=HS.out.rg;have xr:wr.cell? ⟨w.heap.size,0,none⟩=some (.slice ra (nt X.lives k).length rc):=ae hr1 0;have lr:=lt_of_block hr1;have HR1:=Hu (And.intro hr1 hr2);have n0':n0<12:=by omega
   have hkp:=HS.out.kp
   have cC:wr.cell? ⟨bC,oC+n0,none⟩=some (.int .i64 ((gZ X.tab X.tab.length).getD n0 0)):=by
    have:=QC.out n0 0 n0' (by omega);simp only [Nat.mul_one,Nat.add_zero,I5] at this;rw [← this];exact I8 (a:=⟨bC,oC+n0,none⟩) (hkp.2 bC (by omega) hbC)
   obtain ⟨cv,hcv⟩:∃ cv,cv=(gZ X.tab X.tab.length).getD n0 0:=⟨_,rfl⟩;rw [← hcv] at cC;have HCv:=Hu hcv;have n0i:(n0:Int)<12:=by omega
   have n0j:(0:Int)≤(n0:Int):=by omega
   have lC:bC<wr.heap.size:=by have:=hkp.1;omega
   clear hr1 hr2 hkp hcv;rcases hst4 with rfl|rfl|rfl|rfl
   ·exact Q40
   ·go_wp2_with fail;go_quiet (fail);go_wp2_with fail;refine eV _ (fun wc hwc=>?_)
    have bwc:Below wr.heap.size wr wc:=by rw [hwc];exact (by repeat (first|exact Hv _ _|refine aJ ?_|refine I1 ?_ (by first|omega|(simp;done)|(simp;omega)) _))
    refine (qa _ (nt X.lives k) wc (n0:Int) x2 (nt X.lives (k+1)) 0 (au HR1.out.2.1 bwc) (by omega) (HAd.out (by first|rfl|trivial))).mono ?_;rintro e w2 ⟨v2,rfl,R2,hb2⟩;obtain ⟨a2,c2,rfl,_⟩:=aq R2.1;have bw2:=bwc.trans (hb2.mono bwc.size);have hk2:=aj bw2 HR1.out.1 lr;have xr:w2.cell? ⟨w.heap.size,0,none⟩=some (.slice ra (nt X.lives k).length rc):=ae hk2 0;have xf:∀ n,w2.frozen? ⟨w.heap.size,n,none⟩=false:=fun n=>ap hk2 n;have lr2:=lt_of_block hk2;have hsz:=bwc.size;have HN:=Hu (HS.out.new bw2 ⟨R2.1,fun a n c e=>Iq hsz (R2.2 a n c e)⟩);clear hwc bwc hb2 bw2 hk2 R2 hsz cC;go_wp2;go_roundw
    case rel=>exact ⟨k+1,by omega,by go_num,HN.out⟩
    case measure=>simp [intOf];omega
   ·have nun:¬ x4≤X.now:=by have:=HUn.out rfl;omega
    have ncv:¬ cv=0:=by have:=HCp.out rfl;rw [Id] at this;rw [HCv.out];exact this
    have nunD:decide (x4≤X.now)=false:=by simpa using nun
    have ncvD:decide (cv=0)=false:=by simpa using ncv
    have ncvB:(cv == 0)=false:=by simpa using ncv
    go_wp2_with fail;go_quiet (fail);exact Q40
   ·exact Q40
  ·have hge:¬ (X.lives.length:Int)<(X.lives.length:Int):=by omega
   obtain ⟨ra,rc,hr1,hr2⟩:=hs.rg;have xr:wr.cell? ⟨w.heap.size,0,none⟩=some (.slice ra (nt X.lives X.lives.length).length rc):=ae hr1 0;have lr:=lt_of_block hr1;have x21:=ah hbel Y.out.2.1 hp;have HQ:=Hu (And.intro hr2.1 (au RS.out hbel));have HG:=Hu (rl_all HX.out.gw);have HB:=Hu hbel;clear hs hr1 hr2 hbel;go_wp2_with fail;go_quiet ((go_at_call 94;exact Calls.quiet_of (zG _ _ (nt X.lives X.lives.length) X.ring _ (dD HQ.out.1 _) (dD HQ.out.2 _) true (Or.inl ⟨HG.out,rfl⟩))));go_wp2
   all_goals first|(go_ret;exact ⟨rfl,(by repeat (first|exact HB.out|refine aJ ?_))⟩)|exact Zx
end
end Go.Proofs.YtfliffgmeobclaaGreat
