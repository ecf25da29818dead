/- Texts of the row's proof. Conditions: none. -/
import Derived.Test.YtfliffgmeobclaaGreatK43
namespace Go.Proofs.YtfliffgmeobclaaGreat
set_option maxRecDepth 100000
set_option maxHeartbeats 8000000
open Go.RowKit
section
open Go.ChangeShapes Go.WideShapes Go.ChangeAt Go.RowKit
variable {H:Type} {enc:TypeId×Value→H} {W:World} {base:Nat} {v:Value} {d:DataW H} {p:List MemPlace}
def Is_int (_:World) (v:Value):Prop:=∃ n,v=.int .i64 n∧EJ n
theorem opn_int (hv:Value.okWide Tryz.prog W .any base 3 v) (h:DataW.Trod enc Tryz.prog W 0 (fun _=>true) true 3 v d p) (_hz:∀ y∈d.weights Tryz.prog 3,y≤reachBytes):Is_int W v:=by
 obtain ⟨x,rfl,_,_,wx⟩:=ChangeShapes.open_int Tryz.underlying3 hv h
 exact ⟨x,rfl,kW wx⟩
end
section
variable {R:Wd→Wd→List Out→Prop}
structure A0b (R:Wd→Wd→List Out→Prop):Prop where
 nil:∀ X,R X X []
 app:∀ X Y Z A B,R X Y A→R Y Z B→R X Z (A++B)
 en:∀ X i k y,GwMay X→i<X.flows.length→(k=6∨k=7)→R X (gQ X i k y).1 (gQ X i k y).2
 fa:∀ X i why,GwMay X→i<X.flows.length→R X (eU X i why).1 (eU X i why).2
theorem A0b.due (hR:A0b R):∀ (S:List Int) (P:Wd×List Out),GwMay P.1→S.Nodup→(∀ s∈S,∃ f∈P.1.flows,f.slot=s)→∃ O,(S.foldl lX P).2=P.2++O∧R P.1 (S.foldl lX P).1 O
 | [],P,_,_,_=>⟨[],by simp,hR.nil _⟩
 | s :: S,P,h,hn,hS=>by
  rw [List.nodup_cons] at hn
  have hf:=mH h (hS s (Im ..))
  have h1:=DO h hf
  obtain ⟨O2,e2,r2⟩:=hR.due S (lX P s) (DQ h hf) hn.2 (fun t ht=>by
   obtain ⟨f,hfm,hfs⟩:=hS t (Ip _ ht)
   exact ⟨f,h1.ke f hfm (fun e=>hn.1 (by rw [← e,hfs];exact ht)),hfs⟩)
  have h3:∃ O,(lX P s).2=P.2++O∧R P.1 (lX P s).1 O:=by
   unfold lX
   split
   ·exact ⟨_,rfl,hR.en _ _ _ _ h hf.2 (Or.inl rfl)⟩
   ·exact ⟨_,rfl,hR.fa _ _ _ h hf.2⟩
  obtain ⟨O1,e1,r1⟩:=h3
  exact ⟨O1++O2,by rw [List.foldl_cons,e2,e1,List.append_assoc],by rw [List.foldl_cons];exact hR.app _ _ _ _ _ r1 r2⟩
theorem A0b.cut (hR:A0b R):∀ (S:List Int) (P:Wd×List Out),GwMay P.1→S.Nodup→(∀ s∈S,∃ f∈P.1.flows,f.slot=s)→∃ O,(S.foldl oQ P).2=P.2++O∧R P.1 (S.foldl oQ P).1 O
 | [],P,_,_,_=>⟨[],by simp,hR.nil _⟩
 | s :: S,P,h,hn,hS=>by
  rw [List.nodup_cons] at hn
  have hf:=mH h (hS s (Im ..))
  have h1:=DT h hf
  obtain ⟨O2,e2,r2⟩:=hR.cut S (oQ P s) (DV h hf) hn.2 (fun t ht=>by
   obtain ⟨f,hfm,hfs⟩:=hS t (Ip _ ht)
   exact ⟨f,(h1.fl f).2 ⟨hfm,(fun e=>hn.1 (by rw [← e,hfs];exact ht))⟩,hfs⟩)
  have r1:R P.1 (oQ P s).1 (gQ P.1 (eY P.1 s) 6 2).2:=hR.en _ _ _ _ h hf.2 (Or.inl rfl)
  exact ⟨(gQ P.1 (eY P.1 s) 6 2).2++O2,by rw [List.foldl_cons,e2];unfold oQ;rw [List.append_assoc],by rw [List.foldl_cons];exact hR.app _ _ _ _ _ r1 r2⟩
theorem A0b.drain (hR:A0b R):∀ (L:List Lf) (P:Wd×List Out),GwMay P.1→∃ O,(L.foldl gb P).2=P.2++O∧R P.1 (L.foldl gb P).1 O
 | [],P,_=>⟨[],by simp,hR.nil _⟩
 | x :: L,P,h=>by
  obtain ⟨O2,e2,r2⟩:=hR.drain L (gb P x) (Bs h x).gw
  have h3:∃ O,(gb P x).2=P.2++O∧R P.1 (gb P x).1 O:=by
   unfold gb
   split
   ·exact ⟨[],by simp,hR.nil _⟩
   ·exact hR.cut _ _ h (nX _ _) fun s hs=>by
     obtain ⟨f,hf,_,hfs⟩:=(nk h).1 hs
     exact ⟨f,hf,hfs⟩
  obtain ⟨O1,e1,r1⟩:=h3
  exact ⟨O1++O2,by rw [List.foldl_cons,e2,e1,List.append_assoc],by rw [List.foldl_cons];exact hR.app _ _ _ _ _ r1 r2⟩
theorem A0b.tick (hR:A0b R) {X:Wd} (h:WdMay X) (hn:X.now<1099511626776) (h0:R X (iU X) []):R X (jc X).1 (jc X).2:=by
 obtain ⟨O1,e1,r1⟩:=hR.due (eN X) (iU X,[]) (Ai h hn) (sg h.gw) (fun s hs=>by
  obtain ⟨f,hf,_,hfs⟩:=(tQ h.gw).1 hs
  exact ⟨f,by rw [(k9 X).1];exact hf,hfs⟩)
 obtain ⟨O2,e2,r2⟩:=hR.drain (bV X).1.lives (bV X) (mO h hn).gw
 have e3:(jc X).2=O1++O2:=by
  show ((bV X).1.lives.foldl gb (bV X)).2=_
  rw [e2]
  show ((eN X).foldl lX (iU X,[])).2++O2=_
  rw [e1];rfl
 rw [e3]
 have h9:=hR.app _ _ _ _ _ h0 (hR.app _ _ _ _ _ r1 r2)
 rw [List.nil_append] at h9
 exact h9
end
def drI (q:Int) (x:Lf):Bool:=x.state == 3 && x.request == q
def goI (q:Int) (o:Out):Bool:=o.kind == 9 && o.request == q
theorem A0g (p:Lf→Bool) {L:List Lf} {i:Nat} (hi:i<L.length) (y:Lf):(L.set i y).countP p+(if p (L.getD i Lf.zero) then 1 else 0)=L.countP p+if p y then 1 else 0:=by
 have e:L.countP p=(L.take i++L.getD i Lf.zero :: L.drop (i+1)).countP p:=by rw [aN hi,List.getElem_cons_drop,Io]
 rw [e,List.set_eq_take_append_cons_drop,if_pos hi,List.countP_append,List.countP_append,List.countP_cons,List.countP_cons]
 omega
structure DrS (q:Int) (L M:List Lf) (R S:List Rq) (O:List Out):Prop where
 c:L.countP (drI q)=M.countP (drI q)+O.countP (goI q)
 o:∀ o∈O,o.kind=9→gL M o.backend=4∧∃ x∈L,x.state=3∧x.request=o.request∧x.backend=o.backend
 k:∀ y∈M,y.state=3→y∈L
 s:∀ b,gL L b=4→gL M b=4
 r:S=R
def DrR (q:Int) (X Y:Wd) (O:List Out):Prop:=DrS q X.lives Y.lives X.reqs Y.reqs O
theorem A0c {q:Int} {x:Lf} (h:x.state≠3):¬ drI q x=true:=by
 unfold drI
 rw [Bool.and_eq_true,beq_iff_eq]
 exact fun g=>h g.1
theorem A0q {q:Int} {O:List Out} (h:∀ o∈O,o.kind≠9):O.countP (goI q)=0:=List.countP_eq_zero.2 fun o ho=>by simp [goI,h o ho]
theorem A0a {q:Int} {X Y:Wd} {O:List Out} (h:Y.lives=X.lives) (hr:Y.reqs=X.reqs) (hO:∀ o∈O,o.kind≠9):DrR q X Y O:=
 DrS.mk (by rw [h,A0q hO,Nat.add_zero]) (fun o ho h9=>absurd h9 (hO o ho)) (fun y hy _=>by rw [h] at hy;exact hy) (fun b hb=>by rw [h];exact hb) hr
theorem DrS.cons {q:Int} {L M:List Lf} {R S:List Rq} {O:List Out} (h:DrS q L M R S O) {o:Out} (ho:o.kind≠9):DrS q L M R S (o :: O):=
 ⟨by rw [List.countP_cons,if_neg (by simp [goI,ho]),Nat.add_zero];exact h.c,fun x hx h9=>by
  rcases List.mem_cons.1 hx with rfl|hx
  ·exact absurd h9 ho
  ·exact h.o x hx h9,h.k,h.s,h.r⟩
theorem A0w {X:Wd} {b:Int}:∀ o∈(bZ X b).2,∃ x,dt X.lives b=some x∧o.request=x.request∧o.backend=b:=by
 unfold bZ
 intro o ho
 cases hl:dt X.lives b with
 | none=>rw [hl] at ho;simp at ho
 | some x=>
  rw [hl] at ho
  simp only at ho
  split at ho
  ·simp only [List.mem_singleton] at ho
   subst ho
   exact ⟨x,rfl,rfl,rfl⟩
  ·simp at ho
theorem A1c {L:List Lf} (hs:L.Pairwise fun a b=>a.backend<b.backend) {i:Nat} (hi:i<L.length) {y:Lf} (hb:y.backend=(L.getD i Lf.zero).backend):(L.set i y).Pairwise fun a b=>a.backend<b.backend:=by
 have e:(L.set i y).map Lf.backend=L.map Lf.backend:=by
  rw [aN hi] at hb
  refine List.ext_getElem (by simp) fun j h1 h2=>?_
  rw [List.getElem_map,List.getElem_map,List.getElem_set]
  split
  ·rename_i g;subst g;exact hb
  ·rfl
 have h1:=List.pairwise_map (f:=Lf.backend) (R:=fun a b=>a<b) (l:=L.set i y)
 rw [e,List.pairwise_map] at h1
 exact h1.1 hs
theorem A0d (q:Int) {X:Wd} (hb:X.lives.Pairwise fun a b=>a.backend<b.backend) (b:Int):DrR q X (bZ X b).1 (bZ X b).2:=by
 unfold bZ
 cases hl:dt X.lives b with
 | none=>exact A0a rfl rfl (by simp)
 | some x=>
  simp only
  split
  ·rename_i h
   have hxb:x.backend=b:=by
    have h1:=List.find?_some (show X.lives.find? (cE b)=some x from hl)
    simpa [cE] using h1
   rcases bJ (cE b) X.lives Lf.zero with ⟨e,hn⟩|⟨i,hi,e,_⟩
   ·exfalso
    rw [(fH X.lives b).1 e] at hl
    cases hl
   ·have hx:=(fH X.lives b).2 i e hi
    rw [hl] at hx
    obtain rfl:=Option.some.inj hx
    obtain ⟨x,hxe⟩:∃ x,x=X.lives.getD i Lf.zero:=⟨_,rfl⟩
    have hcs:=A0g (drI q) hi (X.lives.getD i Lf.zero).done
    have hse:=uN (y:=(X.lives.getD i Lf.zero).done) hb hi rfl
    have hm:X.lives.getD i Lf.zero∈X.lives:=by rw [aN hi];exact If hi
    rw [← hxe] at h hxb hcs hse hm
    have h4:x.done.state=4:=rfl
    have hyb:x.done.backend=b:=hxb
    simp only
    rw [wF e,← hxe]
    refine DrS.mk ?_ (fun o ho _=>?_) (fun y hy h3=>?_) (fun c hc=>?_) rfl
    ·rw [if_neg (A0c (q:=q) (show x.done.state≠3 by rw [h4];decide))] at hcs
     show _=(X.lives.set i x.done).countP (drI q)+_
     rw [List.countP_cons,List.countP_nil]
     have e2:goI q ⟨9,0,0,b,x.request,0,0⟩=drI q x:=by simp [goI,drI,h.1]
     rw [e2]
     omega
    ·simp only [List.mem_singleton] at ho
     subst ho
     exact ⟨by show gL (X.lives.set i x.done) b=4;rw [hse,if_pos hyb];exact h4,x,hm,h.1,rfl,hxb⟩
    ·rcases List.mem_or_eq_of_mem_set hy with g|g
     ·exact g
     ·rw [g,h4] at h3;omega
    ·show gL (X.lives.set i x.done) c=4
     rw [hse]
     split
     ·exact h4
     ·exact hc
  ·exact A0a rfl rfl (by simp)
theorem A0i (q:Int) {X:Wd} (hb:X.lives.Pairwise fun a b=>a.backend<b.backend) (i:Nat) {k:Int} (y:Int) (hk:k=6∨k=7):DrR q X (gQ X i k y).1 (gQ X i k y).2:=by
 unfold gQ
 exact DrS.cons (A0d q (X:=jq X i _) hb _) (by show k≠9;omega)
theorem A0s (q:Int):A0b (DrR q) where
 nil X:=A0a rfl rfl (by simp)
 app X Y Z A B h k:=DrS.mk (by rw [h.c,k.c,List.countP_append];omega) (fun o ho h9=>by
  rcases List.mem_append.1 ho with g|g
  ·exact ⟨k.s _ (h.o o g h9).1,(h.o o g h9).2⟩
  ·obtain ⟨h1,x,hx,h3,h4⟩:=k.o o g h9
   exact ⟨h1,x,h.k x hx h3,h3,h4⟩) (fun y hy h3=>h.k y (k.k y hy h3) h3) (fun b hb=>k.s b (h.s b hb)) (k.r.trans h.r)
 en X i k y h _ hk:=A0i q (cG h.bk) i y hk
 fa X i why h _:=by
  have hn:∀ Y O,DrR q (bU X (X.flows.getD i Fl.zero).backend.toNat true) Y O→DrR q X Y O:=fun Y O g=>g
  unfold eU
  simp only
  split
  ·exact hn _ _ (A0i q (X:=bU X (X.flows.getD i Fl.zero).backend.toNat true) (cG h.bk) _ _ (Or.inl rfl))
  ·split
   ·exact hn _ _ (A0i q (X:=bU X (X.flows.getD i Fl.zero).backend.toNat true) (cG h.bk) _ _ (Or.inl rfl))
   ·split
    ·exact DrS.cons (O:=[]) (A0a rfl rfl (by simp)) (by show (5:Int)≠9;decide)
    ·exact DrS.cons (A0d q (X:=iJ (bU X (X.flows.getD i Fl.zero).backend.toNat true) i _) (cG h.bk) _) (by show (5:Int)≠9;decide)
structure DoR (q:Int) (X:Wd) (e:Ev) (Y:Wd) (O:List Out):Prop where
 c:e.request≠q→X.lives.countP (drI q)=Y.lives.countP (drI q)+O.countP (goI q)
 g:e.kind=6→e.request=q→q∉gP X.reqs→X.lives.countP (drI q)+(if (wW X e).ans=0 then 1 else 0)=Y.lives.countP (drI q)+O.countP (goI q)
 o:∀ o∈O,o.kind=9→gL Y.lives o.backend=4∧((∃ x∈X.lives,x.state=3∧x.request=o.request∧x.backend=o.backend)∨(o.request=e.request∧o.backend=e.backend))
 k:∀ y∈Y.lives,y.state=3→y∈X.lives∨(y.request=e.request∧y.backend=e.backend∧y.until_=X.now+X.cf.drain)
 r:∀ i∈gP Y.reqs,i∈gP X.reqs∨i=e.request
theorem A0p {R:List Rq} {y:Rq} {j:Int} (h:y.id=j):∀ i∈gP (R++[y]),i∈gP R∨i=j:=fun i hi=>by
 unfold gP at hi
 rw [Ir] at hi
 rcases List.mem_append.1 hi with g|g
 ·exact Or.inl g
 ·right;simpa [h] using g
theorem A1h (q:Int) {L:List Lf} (r:Rq):(jnF L r).1.countP (drI q)=L.countP (drI q)∧∀ y∈(jnF L r).1,y.state=3→y∈L:=by
 have h1:(lh r).state=1:=rfl
 have hd:¬ drI q (lh r)=true:=A0c (by rw [h1];decide)
 unfold jnF
 split
 ·exact ⟨rfl,fun y hy _=>hy⟩
 ·rcases bJ (cE r.backend) L Lf.zero with ⟨e,_⟩|⟨i,hi,e,_⟩
  ·rw [if_pos (by omega)]
   unfold eo
   refine ⟨?_,fun y hy h3=>?_⟩
   ·simp only
    rw [List.countP_append,List.countP_cons,if_neg hd,Nat.add_zero,← List.countP_append,Io]
   ·rcases List.mem_append.1 hy with g|g
    ·exact List.mem_of_mem_take g
    ·rcases List.mem_cons.1 g with g|g
     ·rw [g,h1] at h3;omega
     ·exact List.mem_of_mem_drop g
  ·rw [if_neg (by omega),e,Id]
   split
   ·exact ⟨rfl,fun y hy _=>hy⟩
   ·rename_i h4
    have hcs:=A0g (drI q) hi (lh r)
    rw [if_neg hd,if_neg (A0c (by have:=Decidable.not_not.1 h4;omega))] at hcs
    refine ⟨hcs,fun y hy h3=>?_⟩
    rcases List.mem_or_eq_of_mem_set hy with g|g
    ·exact g
    ·rw [g,h1] at h3;omega
theorem A1i (L:List Lf) (r:Rq) (now drain:Int):(∃ a,a≠0∧rtF L r now drain=(L,a))∨∃ i,i<L.length∧aQ (cE r.backend) L=(i:Int)∧(L.getD i Lf.zero).state≠3∧rtF L r now drain=(L.set i (jl (L.getD i Lf.zero) r now drain),0):=by
 unfold rtF
 rcases bJ (cE r.backend) L Lf.zero with ⟨e,_⟩|⟨i,hi,e,_⟩
 ·left;exact ⟨8,by decide,by rw [if_pos (by omega)]⟩
 ·rw [if_neg (by omega),e,Id]
  by_cases h4:(L.getD i Lf.zero).state=4
  ·left;exact ⟨8,by decide,by rw [if_pos h4]⟩
  ·rw [if_neg h4]
   by_cases h3:(L.getD i Lf.zero).state=3
   ·left;exact ⟨12,by decide,by rw [if_pos h3]⟩
   ·right;exact ⟨i,hi,rfl,h3,by rw [if_neg h3]⟩
theorem A1d (q:Int) {X:Wd} (hb:bF X.lives X.reqs) (e:Ev) (hk:e.kind=5∨e.kind=6):DoR q X e (um X e).1 (um X e).2:=by
 have hA:um X e=jF X e (wW X e).L (wW X e).R (wW X e).ans (wW X e).nw:=rfl
 rw [hA]
 obtain ⟨A,hAe⟩:∃ A,A=wW X e:=⟨_,rfl⟩
 have hAe':=hAe
 unfold wW at hAe'
 obtain ⟨r,hr⟩:∃ r,r=reqE e:=⟨_,rfl⟩
 rw [← hr] at hAe'
 have hrb:r.backend=e.backend:=by rw [hr];rfl
 have hri:r.id=e.request:=by rw [hr];rfl
 have hrk:r.kind=fE e.kind:=by rw [hr];rfl
 have o8:∀ o∈[(⟨8,0,0,0,e.request,A.ans,0⟩:Out)],o.kind≠9:=fun o ho=>by
  simp only [List.mem_singleton] at ho;subst ho;show (8:Int)≠9;decide
 have key:∀ {L':List Lf} {R':List Rq},L'.countP (drI q)=X.lives.countP (drI q)→(∀ y∈L',y.state=3→y∈X.lives)→(∀ i∈gP R',i∈gP X.reqs∨i=e.request)→(e.kind=6→e.request=q→q∉gP X.reqs→A.ans≠0)→
   DoR q X e { X with lives:=L',reqs:=R' } [⟨8,0,0,0,e.request,A.ans,0⟩]:=fun hc hkk hrr ha=>
  ⟨fun _=>by rw [A0q o8];exact hc.symm,fun h6 h1 h2=>by rw [← hAe,if_neg (ha h6 h1 h2),A0q o8];exact hc.symm,fun o ho h9=>absurd h9 (o8 o ho),fun y hy h3=>Or.inl (hkk y hy h3),hrr⟩
 rw [← hAe]
 unfold BI at hAe'
 split at hAe'
 ·rename_i h0
  have e1:jF X e A.L A.R A.ans A.nw=({ X with lives:=X.lives,reqs:=X.reqs },[⟨8,0,0,0,e.request,A.ans,0⟩]):=by rw [hAe'];unfold jF;simp
  rw [e1]
  refine key rfl (fun y hy _=>hy) (fun i hi=>Or.inl hi) (fun _ h1 h2=>?_)
  exfalso
  rcases bJ (jW r.id) X.reqs Rq.zero with ⟨ei,_⟩|⟨i,hi,ei,hp,_⟩
  ·omega
  ·refine h2 (It.2 ⟨X.reqs.getD i Rq.zero,?_,?_⟩)
   ·rw [aN hi];exact If hi
   ·rw [← h1,← hri];simpa [jW] using hp
 ·split at hAe'
  ·have e1:jF X e A.L A.R A.ans A.nw=({ X with lives:=X.lives,reqs:=X.reqs },[⟨8,0,0,0,e.request,A.ans,0⟩]):=by rw [hAe'];unfold jF;simp
   rw [e1]
   exact key rfl (fun y hy _=>hy) (fun i hi=>Or.inl hi) (fun _ _ _=>by rw [hAe'];show (9:Int)≠0;decide)
  ·split at hAe'
   ·rename_i h1
    have h5:¬ e.kind=6:=fun h6=>by rw [hrk,h6] at h1;revert h1;decide
    have e1:jF X e A.L A.R A.ans A.nw=({ X with lives:=(jnF X.lives r).1,reqs:=A.R },[⟨8,0,0,0,e.request,A.ans,0⟩]):=by rw [hAe'];unfold jF;simp [h5]
    rw [e1]
    have hj:=A1h q (L:=X.lives) r
    exact key hj.1 hj.2 (by rw [hAe'];exact A0p hri) (fun h6=>absurd h6 h5)
   ·rename_i h1
    have h6:e.kind=6:=by
     rcases hk with g|g
     ·exfalso;rw [hrk,g] at h1;revert h1;decide
     ·exact g
    have hR:∀ i∈gP A.R,i∈gP X.reqs∨i=e.request:=by rw [hAe'];exact A0p hri
    have hnw:A.nw=true:=by rw [hAe']
    have hAL:A.L=(rtF X.lives ⟨r.id,2,r.backend,0,r.answer⟩ X.now X.cf.drain).1:=by rw [hAe']
    have hAa:A.ans=(rtF X.lives ⟨r.id,2,r.backend,0,r.answer⟩ X.now X.cf.drain).2:=by rw [hAe']
    clear hAe'
    rcases A1i X.lives ⟨r.id,2,r.backend,0,r.answer⟩ X.now X.cf.drain with ⟨a,ha,er⟩|⟨i,hi,ei,h3,er⟩
    ·rw [er] at hAL hAa
     have e1:jF X e A.L A.R A.ans A.nw=({ X with lives:=X.lives,reqs:=A.R },[⟨8,0,0,0,e.request,A.ans,0⟩]):=by
      unfold jF;simp only;rw [if_pos (Or.inr (Or.inl (by rw [hAa];exact ha))),hAL]
     rw [e1]
     exact key rfl (fun y hy _=>hy) hR (fun _ _ _=>by rw [hAa];exact ha)
    ·rw [er] at hAL hAa
     simp only at hAL hAa ei
     obtain ⟨y,hy⟩:∃ y,y=jl (X.lives.getD i Lf.zero) ⟨r.id,2,r.backend,0,r.answer⟩ X.now X.cf.drain:=⟨_,rfl⟩
     rw [← hy] at hAL
     have hlf:=(fH X.lives r.backend).2 i ei hi
     have hst:gL X.lives e.backend=(X.lives.getD i Lf.zero).state:=by unfold gL;rw [← hrb,hlf];rfl
     have hxb:(X.lives.getD i Lf.zero).backend=e.backend:=by
      have h1:=List.find?_some (show X.lives.find? (cE r.backend)=some (X.lives.getD i Lf.zero) from hlf)
      rw [← hrb];simpa [cE] using h1
     have hyb:y.backend=e.backend:=by rw [hy];exact hxb
     have hyr:y.request=e.request:=by rw [hy,← hri];rfl
     have hyu:y.until_=X.now+X.cf.drain:=by rw [hy];rfl
     have hcs:=A0g (drI q) hi y
     rw [if_neg (A0c h3),Nat.add_zero] at hcs
     have hls:=iq (y:=y) (b:=e.backend) (cG hb) hi (hyb.trans hxb.symm)
     rw [if_pos hyb] at hls
     have hmem:∀ z∈X.lives.set i y,z.state=3→z∈X.lives∨(z.request=e.request∧z.backend=e.backend∧z.until_=X.now+X.cf.drain):=fun z hz _=>by
      rcases List.mem_or_eq_of_mem_set hz with g|g
      ·exact Or.inl g
      ·right;rw [g];exact ⟨hyr,hyb,hyu⟩
     unfold jF
     simp only
     rw [if_neg (by simp [hnw,hAa,h6]),hAL]
     split
     ·rename_i hs1
      rw [hst] at hs1
      have hy4:y.state=4:=by rw [hy];unfold jl;simp only;rw [if_pos hs1]
      rw [if_neg (A0c (by omega)),Nat.add_zero] at hcs
      have hg:([⟨8,0,0,0,e.request,A.ans,0⟩,⟨9,0,0,e.backend,e.request,0,0⟩]:List Out).countP (goI q)=if e.request=q then 1 else 0:=by simp [goI,List.countP_cons]
      refine ⟨fun hne=>?_,fun _ h1 _=>?_,fun o ho h9=>?_,hmem,hR⟩
      ·rw [hg,if_neg hne];exact hcs.symm
      ·rw [hg,if_pos h1,← hAe,if_pos hAa];exact congrArg (·+1) hcs.symm
      ·simp only [List.mem_cons,List.not_mem_nil,or_false] at ho
       rcases ho with rfl|rfl
       ·exfalso;revert h9;show (8:Int)=9→False;decide
       ·exact ⟨by show gL (X.lives.set i y) e.backend=4;unfold gL;rw [hls];exact hy4,Or.inr ⟨rfl,rfl⟩⟩
     ·rename_i hs1
      rw [hst] at hs1
      have hy3:y.state=3:=by rw [hy];unfold jl;simp only;rw [if_neg hs1]
      obtain ⟨Z,hZ⟩:∃ Z:Wd,Z={ X with lives:=X.lives.set i y,reqs:=A.R,ring:=bO (dM (X.lives.set i y)) }:=⟨_,rfl⟩
      have hZl:Z.lives=X.lives.set i y:=by rw [hZ]
      have hZr:Z.reqs=A.R:=by rw [hZ]
      rw [← hZ]
      have hg:=A0d q (X:=Z) (by rw [hZl];exact A1c (cG hb) hi (hyb.trans hxb.symm)) e.backend
      have hgo:=A0w (X:=Z) (b:=e.backend)
      have hc8:((⟨8,0,0,0,e.request,A.ans,0⟩:Out) :: (bZ Z e.backend).2).countP (goI q)=(bZ Z e.backend).2.countP (goI q):=by
       rw [List.countP_cons,if_neg (by simp [goI]),Nat.add_zero]
      refine ⟨fun hne=>?_,fun _ h1 _=>?_,fun o ho h9=>?_,fun z hz h3=>hmem z (by rw [← hZl];exact hg.k z hz h3) h3,by rw [hg.r,hZr];exact hR⟩
      ·rw [if_neg (by simp [drI,hyr,hne])] at hcs
       rw [hc8,← hg.c,hZl];exact hcs.symm
      ·rw [if_pos (by simp [drI,hy3,hyr,h1])] at hcs
       rw [hc8,← hg.c,hZl,← hAe,if_pos hAa];exact hcs.symm
      ·rcases List.mem_cons.1 ho with g|g
       ·exfalso;rw [g] at h9;revert h9;show (8:Int)=9→False;decide
       ·obtain ⟨x,hx,h2,h4⟩:=hgo o g
        rw [hZl,hls] at hx
        obtain rfl:=Option.some.inj hx
        exact ⟨(hg.o o g h9).1,Or.inr ⟨by rw [h2,hyr],h4⟩⟩
theorem A0r (q:Int) {X:Wd} (h:WdMay X) {e:Ev} (he:EvMay X e):DoR q X e (mP X e).1 (mP X e).2:=by
 have go:¬ (e.kind=5∨e.kind=6)→∀ Y O,DrR q X Y O→DoR q X e Y O:=fun hk Y O r=>
  ⟨fun _=>r.c,fun h6=>absurd (Or.inr h6) hk,fun o ho h9=>⟨(r.o o ho h9).1,Or.inl (r.o o ho h9).2⟩,fun y hy h3=>Or.inl (r.k y hy h3),fun i hi=>Or.inl (by rw [r.r] at hi;exact hi)⟩
 unfold mP
 split
 ·rename_i h1
  refine go (by omega) _ _ ?_
  unfold gj
  split
  ·exact A0a rfl rfl (by simp)
  ·split
   ·exact A0a rfl rfl (by simp)
   ·exact A0a rfl rfl (by simp)
 ·split
  ·rename_i h1;exact A1d q h.gw.bk e h1
  ·rename_i h1
   split
   ·rename_i h7
    refine go h1 _ _ ((A0s q).tick h (he.tk h7) ?_)
    have hl:=(k9 X).2.2
    have hst:∀ x:Lf,(Lf.wk (X.now+1) x).state=3→Lf.wk (X.now+1) x=x:=fun x g=>by
     unfold Lf.wk at g ⊢
     split
     ·rename_i g1;rw [if_pos g1] at g;exact absurd g (show ¬ (2:Int)=3 by decide)
     ·rfl
    refine DrS.mk ?_ (by simp) (fun y hy h3=>?_) (fun b hb=>?_) ?_
    ·rw [hl,List.countP_map]
     show _=_+0
     rw [Nat.add_zero]
     refine List.countP_congr fun x _=>?_
     show drI q x=true↔drI q (Lf.wk (X.now+1) x)=true
     unfold drI
     simp only [Bool.and_eq_true,beq_iff_eq]
     refine ⟨fun ⟨g1,g2⟩=>?_,fun ⟨g1,g2⟩=>?_⟩
     ·have e:Lf.wk (X.now+1) x=x:=by unfold Lf.wk;rw [if_neg (by omega)]
      rw [e];exact ⟨g1,g2⟩
     ·have e:=hst x g1
      rw [e] at g1 g2
      exact ⟨g1,g2⟩
    ·rw [hl] at hy
     obtain ⟨x,hx,rfl⟩:=It.1 hy
     rw [hst x h3];exact hx
    ·rw [hl,stB_wk,hb];rfl
    ·exact (pq (ds X) (bM X)).1
   ·refine go h1 _ _ ?_
    unfold fj
    by_cases hc:ub X.tab e.slot e.gen≠0
    ·rw [if_pos hc];exact A0a rfl rfl (by simp)
    ·rw [if_neg hc]
     obtain ⟨_,hi,_,_⟩:=yz h.gw (Decidable.not_not.1 hc)
     split
     ·exact A0i q (cG h.gw.bk) _ _ (Or.inr rfl)
     ·split
      ·refine A0a ?_ ?_ (by simp)
       ·split<;>rfl
       ·split<;>rfl
      ·split
       ·exact A0a rfl rfl (by simp)
       ·split
        ·exact A0a rfl rfl (by simp)
        ·exact (A0s q).fa _ _ _ h.gw hi
def Low (P:lA):Prop:=(∀ i∈gP P.last.reqs,i<2000)∧∀ x∈P.last.lives,x.state=3→x.request<2000
theorem A0e {c:Cf} {P:lA} {n:Nat} (h:PlyAt c P n) (hn:n≤100000) {e:Ev} (he:EvGood e):EvMay P.last e:=he.may (by have:=h.ok.nw;have:=h.len;omega)
theorem A0m {c:Cf} {P:lA} {n:Nat} (h:PlyAt c P n) (hn:n≤100000) {e:Ev} (he:EvGood e) (hr:e.request<2000) (q:Low P):Low (sI P e):=by
 have h1:=A0r 2000 h.ok.wd (A0e h hn he)
 refine ⟨fun i hi=>?_,fun x hx h3=>?_⟩
 ·rcases h1.r i hi with g|g
  ·exact q.1 i g
  ·omega
 ·rcases h1.k x hx h3 with g|g
  ·exact q.2 x g h3
  ·omega
theorem A0t (G:List Hd) (d:Dd):(Hg G d).request<2000:=by
 have a:=cU d.a (m:=30) (by decide)
 unfold Hg
 repeat' split
 all_goals first|(show (0:Int)<2000;decide)|(show pk d.a 30<2000;omega)
theorem A0n {c:Cf} {Q:lA→Prop} {N:Nat} (hN:N≤100000) (hs:∀ P n e,PlyAt c P n→n<N→EvGood e→e.request<2000→Q P→Q (sI P e)):∀ (L:List Dd) {P:lA} {n:Nat},PlyAt c P n→n+L.length≤N→Q P→Q (L.foldl wK P)
 | [],_,_,_,_,h=>h
 | d :: L,P,n,h,hn,q=>by
  have hg:=qK h.ok.gi d
  exact A0n hN hs L (P:=wK P d) (n:=n+1) (h.doP hg (by simp at hn;omega)) (by simp at hn ⊢;omega) (hs P n _ h (by simp at hn;omega) hg (A0t _ _) q)
theorem A0x {c:Cf} (hc:ju c) (L:List Dd) {most:Nat} (hm:most≤1000):Low (iI (dy c) L most):=by
 have j:∀ k,k≤3→Low (oA (dy c) k):=by
  intro k
  induction k with
  | zero=>intro _;exact ⟨fun i hi=>absurd hi (by simp [oA,dy,gP]),fun x hx=>absurd hx (by simp [oA,dy])⟩
  | succ k ih=>intro hk;rw [gD];exact A0m (gu hc (by omega)) (by omega) (tZ (by omega)) (by show (1000+(k:Int))<2000;omega) (ih (by omega))
 refine A0n (N:=4+most) (by omega) (fun P n e h hn he hr q=>A0m h (by omega) he hr q) _ (rV hc) (by simp;omega) ?_
 rw [uk]
 exact A0m (gu hc (I3 3)) (by omega) kR (by decide) (j 3 (I3 3))
def goS (S:List Stp):Nat:=(S.flatMap fun s=>s.out).countP (goI 2000)
theorem A0j (A B:List Stp):goS (A++B)=goS A+goS B:=by unfold goS;rw [List.flatMap_append,List.countP_append]
theorem A0k (s:Stp):goS [s]=s.out.countP (goI 2000):=by unfold goS;simp
structure A0l (b U:Int) (m g:Nat) (P:lA):Prop where
 l:m≤P.steps.length
 c:P.last.lives.countP (drI 2000)+goS (P.steps.drop m)=g
 k:∀ y∈P.last.lives,y.state=3→y.request=2000→y.backend=b∧y.until_=U
 o:∀ s∈P.steps.drop m,∀ o∈s.out,o.kind=9→o.request=2000→o.backend=b∧gL s.af.lives b=4
theorem A0u {c:Cf} {P:lA} {n:Nat} (h:PlyAt c P n) (hn:n≤100000) {e:Ev} (he:EvGood e) (hr:e.request<2000) {b U:Int} {m g:Nat} (q:A0l b U m g P):A0l b U m g (sI P e):=by
 have h1:=A0r 2000 h.ok.wd (A0e h hn he)
 have hd:(sI P e).steps.drop m=P.steps.drop m++[⟨e,P.last,(mP P.last e).1,(mP P.last e).2⟩]:=by
  show (P.steps++[_]).drop m=_
  rw [List.drop_append_of_le_length q.l]
 refine ⟨by rw [Gl];have:=q.l;omega,?_,fun y hy h3 h4=>?_,fun s hs o ho h9 hq=>?_⟩
 ·have h2:=h1.c (by omega)
  have h3:=q.c
  rw [hd,A0j,A0k]
  show (mP P.last e).1.lives.countP _+_=_
  simp only
  omega
 ·rcases h1.k y hy h3 with g|g
  ·exact q.k y g h3 h4
  ·omega
 ·rw [hd] at hs
  rcases List.mem_append.1 hs with g|g
  ·exact q.o s g o ho h9 hq
  ·simp only [List.mem_singleton] at g
   subst g
   obtain ⟨h2,⟨x,hx,h3,h4,h5⟩|⟨h4,_⟩⟩:=h1.o o ho h9
   ·have h6:=(q.k x hx h3 (h4.trans hq)).1
    rw [h5] at h6
    exact ⟨h6,by rw [← h6];exact h2⟩
   ·omega
theorem A1e {c:Cf} {P:lA} {n:Nat} (h:PlyAt c P n) (hn:n≤100000) {b:Int} (hb:0≤b∧b≤11) (q:Low P) :
  A0l b (P.last.now+c.drain) n (if (wW P.last (lk 2000 b)).ans=0 then 1 else 0) (sI P (lk 2000 b)):=by
 have he:EvGood (lk 2000 b):=DI (by decide) (by decide) hb.1 hb.2
 have h1:=A0r 2000 h.ok.wd (A0e h hn he)
 have hl:=h.len
 have hd:(sI P (lk 2000 b)).steps.drop n=[⟨lk 2000 b,P.last,(mP P.last (lk 2000 b)).1,(mP P.last (lk 2000 b)).2⟩]:=by
  show (P.steps++[_]).drop n=_
  rw [← hl,List.drop_left]
 have hc0:P.last.lives.countP (drI 2000)=0:=List.countP_eq_zero.2 fun x hx g=>by
  simp only [drI,Bool.and_eq_true,beq_iff_eq] at g
  have:=q.2 x hx g.1
  omega
 refine ⟨by rw [Gl];omega,?_,fun y hy h3 h4=>?_,fun s hs o ho h9 hq=>?_⟩
 ·have h2:=h1.g rfl rfl (fun g=>by have:=q.1 _ g;omega)
  rw [hd,A0k]
  show (mP P.last (lk 2000 b)).1.lives.countP _+_=_
  simp only
  omega
 ·rcases h1.k y hy h3 with g|g
  ·have:=q.2 y g h3;omega
  ·exact ⟨g.2.1,by rw [← h.ok.cf];exact g.2.2⟩
 ·rw [hd] at hs
  simp only [List.mem_singleton] at hs
  subst hs
  obtain ⟨h2,⟨x,hx,h3,h4,_⟩|⟨_,h5⟩⟩:=h1.o o ho h9
  ·have:=q.2 x hx h3;omega
  ·exact ⟨h5,by rw [show o.backend=b from h5] at h2;exact h2⟩
theorem A0z {c:Cf} {P:lA} (h:zO c P) {b U:Int} {m g:Nat} (q:A0l b U m g P) (hu:U≤P.last.now):goS (P.steps.drop m)=g:=by
 have h1:=q.c
 have hc0:P.last.lives.countP (drI 2000)=0:=List.countP_eq_zero.2 fun x hx g=>by
  simp only [drI,Bool.and_eq_true,beq_iff_eq] at g
  have h2:=(q.k x hx g.1 g.2).2
  have h3:=h.wd.un x hx g.1
  omega
 omega
theorem A0v {S:List Stp} {n k:Nat} (hn:n≤k) (hk:k<S.length):goS ((S.take (k+1)).drop n)=goS ((S.take k).drop n)+(S.getD k Stp.zero).out.countP (goI 2000)∧goS ((S.take k).drop n)+(S.getD k Stp.zero).out.countP (goI 2000)≤goS (S.drop n):=by
 have h1:goS ((S.take (k+1)).drop n)=goS ((S.take k).drop n)+(S.getD k Stp.zero).out.countP (goI 2000):=by
  rw [Ia hk,List.drop_append_of_le_length (by rw [Ii];omega),A0j,A0k,aN hk]
 refine ⟨h1,?_⟩
 rw [← h1]
 have h2:S.drop n=(S.take (k+1)).drop n++S.drop (k+1):=by
  rw [← List.drop_append_of_le_length (by rw [Ii];omega),Io]
 rw [h2,A0j]
 omega
theorem A1f (X:Wd) (e:Ev):∃ T,(um X e).2=⟨8,0,0,0,e.request,(wW X e).ans,0⟩ :: T:=by
 unfold um jF
 simp only
 split
 ·exact ⟨_,rfl⟩
 ·split<;>exact ⟨_,rfl⟩
theorem A1g {c:Cf} {P:lA} {n:Nat} (h:PlyAt c P n) (b:Int):∃ T,((sI P (lk 2000 b)).steps.getD n Stp.zero).out=⟨8,0,0,0,2000,(wW P.last (lk 2000 b)).ans,0⟩ :: T:=by
 obtain ⟨T,hT⟩:=A1f P.last (lk 2000 b)
 refine ⟨T,?_⟩
 have h1:(sI P (lk 2000 b)).steps.getD n Stp.zero=⟨lk 2000 b,P.last,(mP P.last (lk 2000 b)).1,(mP P.last (lk 2000 b)).2⟩:=by
  show (P.steps++[_]).getD n Stp.zero=_
  rw [← h.len]
  simp [List.getD]
 rw [h1]
 exact hT
theorem A1a {X:Wd} (h:GwMay X) {b:Int} (h4:gL X.lives b=4):∀ f∈X.flows,f.backend≠b:=fun f hf e=>by
 have h1:=(h.fl f hf).st
 rw [e] at h1
 omega
theorem A0y {X:Wd} (h:GwMay X) {b:Int} (h4:gL X.lives b=4):X.flows.countP (fun f=>f.backend == b)=0:=List.countP_eq_zero.2 fun f hf g=>A1a h h4 f hf (by simpa using g)
theorem A1j {w:World} {b o:Nat} {s:Stp} {m:Ms} (h:w.rangeAt b o (mg s m)):w.rangeAt b (o+34) (dj s.af m.a):=by
 intro j v hj
 have hj26:j<(dj s.af m.a).length:=by
  rcases Nat.lt_or_ge j (dj s.af m.a).length with g|g
  ·exact g
  ·rw [Ik g] at hj;cases hj
 have h8:(Ev.cells s.ev).length=8:=rfl
 have h26:=iT s.be m.b
 have:=h (34+j) v (by
  unfold mg
  rw [IC (by omega),IC (by omega),show 34+j - (Ev.cells s.ev).length - (dj s.be m.b).length=j by omega,IB hj26]
  exact hj)
 rw [Nat.add_assoc]
 exact this
theorem PG.so {B p:Nat} {w:World} {c:Cf} {P:lA} {VL:Vs} {MS:List Ms} {vs vg:Value} (h:PG B p w c P VL MS vs vg) :
  ∃ a cp,w.cell? ⟨p,16,none⟩=some (.slice a P.steps.length cp)∧∀ i,i<P.steps.length→∃ b o V,a=some ⟨b,o,none⟩∧b<w.heap.size∧w.rangeAt b (o+i*61+34) (dj (P.steps.getD i Stp.zero).af V)∧WA w (P.steps.getD i Stp.zero).af V∧
   ∃ ao co,w.cell? ⟨b,o+i*61+60,none⟩=some (.slice ao (P.steps.getD i Stp.zero).out.length co)∧(P.steps.getD i Stp.zero).out.length≤maxLen∧((P.steps.getD i Stp.zero).out.length≠0→∃ bo oo,ao=some ⟨bo,oo,none⟩∧bo<w.heap.size∧∀ k j,k<(P.steps.getD i Stp.zero).out.length→j<7→w.cell? ⟨bo,oo+k*7+j,none⟩=((P.steps.getD i Stp.zero).out.getD k Out.zero).cells[j]?):=by
 obtain ⟨a,cp,h16,h1⟩:=h.rd
 refine ⟨a,cp,h16,fun i hi=>?_⟩
 obtain ⟨b,o,e,hb,hr⟩:=h1 (by omega)
 have hri:=hr i hi
 have hw:=h.ws i hi
 obtain ⟨ao,co,e1,g1,g2,_,pt⟩:=aK Out.zero hw.o.1
 refine ⟨b,o,_,e,hb,A1j hri,hw.a.wa,ao,co,?_,Iq g1 g2,fun hne=>?_⟩
 ·refine hri 60 _ ?_
  rw [← e1];rfl
 ·obtain ⟨b1,o1,e2,h2,q⟩:=pt (by intro e;rw [e] at hne;simp at hne)
  exact ⟨b1,o1,e2,h2,q⟩
theorem A1b {p:Nat} {w:World} {X:Wd} {V:Vs} {T:TypeId} (h:WA w X V) (hb:w.heap[p]?=some (.cells (dj X V).toArray T (0,0))):GR p w X V:=by
 refine ⟨h.ro,h.fl,h.he,lt_of_block hb,fun i v hv=>?_⟩
 rw [ae hb i,I7,hv]
theorem GR.fw {p:Nat} {w:World} {X:Wd} {V:Vs} (h:GR p w X V):∃ al cl,w.cell? ⟨p,18,none⟩=some (.slice al X.flows.length cl)∧(X.flows.length≠0→∃ bl ol,al=some ⟨bl,ol,none⟩∧bl<w.heap.size∧∀ k j,k<X.flows.length→j<7→w.cell? ⟨bl,ol+k*7+j,none⟩=(X.flows.getD k Fl.zero).cells[j]?):=by
 obtain ⟨al,cl,el,_⟩:=aq h.2.1
 refine ⟨al,cl,by rw [← el];exact h.c 18 rfl,fun hne=>?_⟩
 obtain ⟨_,_,e0,_,_,_,pt⟩:=aK Fl.zero h.2.1
 rw [el] at e0
 injection e0 with e01 _ _
 obtain ⟨b1,o1,e1,h1,q⟩:=pt (by intro e;rw [e] at hne;simp at hne)
 exact ⟨b1,o1,e01.trans e1,h1,q⟩
def flB (X:Wd) (b:Int):Nat:=X.flows.countP fun f=>f.backend == b
theorem A0f {α:Type} {L:List α} {k:Nat} {d:α} (q:α→Bool) (hk:k<L.length):(L.take (k+1)).countP q=(L.take k).countP q+if q (L.getD k d)=true then 1 else 0:=by
 rw [Ia hk,List.countP_append,aN hk]
 simp [List.countP_cons]
theorem A0o {w:World} {X:Wd} {V:Vs} (h:WA w X V) (hn:X.flows.length≤40) (b:Int):Calls Tryz.prog 17 #[.agg (dj X V).toArray,.int .i64 b] w fun e w'=>e=.returned (.int .i64 (flB X b:Nat))∧Below w.heap.size w w':=by
 obtain ⟨AW,hAW⟩:∃ AW,AW=(dj X V).toArray:=⟨_,rfl⟩
 rw [← hAW]
 have HA:=Hu hAW
 have HW:=Hu h
 clear hAW h
 go_enter Tryz.func17,Tryz.ntmps17
 go_wp2_with fail
 refine aY _ (fun wb hwb=>?_)
 have bwb:Below w.heap.size w wb:=by rw [hwb];exact (Hv _ _).alloc (I3 _) _
 have hbk:wb.heap[w.heap.size]?=some (.cells (dj X V).toArray 63 (0,0)):=by rw [hwb,← HA.out];exact az _ rfl
 obtain ⟨al,cl,x18,hq⟩:=(A1b (HW.out.below bwb) hbk).fw
 have HQ:=Hu hq
 have HB:=Hu bwb
 clear hwb bwb hbk hq
 go_loopw [5,6] (fun n i wr=>∃ k:Nat,k≤X.flows.length∧i=.int .i64 k∧wr=wb∧n=.int .i64 ((X.flows.take k).countP (fun f=>f.backend == b):Nat)) (fun _ i _=>X.flows.length - (intOf i).toNat)
 case atStart=>exact ⟨0,I4 _,rfl,rfl,rfl⟩
 case round=>
  obtain ⟨k,hk,rfl,hwr,rfl⟩:=hrel
  subst hwr
  obtain ⟨n,hcn⟩:∃ n,n=(X.flows.take k).countP (fun f=>f.backend == b):=⟨_,rfl⟩
  have hnk:n≤k:=by rw [hcn];exact Iq List.countP_le_length (List.length_take_le _ _)
  rw [← hcn]
  have HC:=Hu hcn
  clear hcn
  rcases (show k<X.flows.length∨k=X.flows.length by omega) with hlt|rfl
  ·have hlt':(k:Int)<(X.flows.length:Int):=by omega
   have k0:(0:Int)≤(k:Int):=by omega
   obtain ⟨bl,ol,rfl,hbl,q⟩:=HQ.out (by omega)
   have a0:=q k 3 hlt (by omega)
   obtain ⟨x,hx⟩:∃ x,x=X.flows.getD k Fl.zero:=⟨_,rfl⟩
   have hcx:=A0f (d:=Fl.zero) (fun f:Fl=>f.backend == b) hlt
   rw [← hx] at a0 hcx
   obtain ⟨x0,x1,x2,x3,x4,x5,x6⟩:=x
   simp only [Fl.cells,I5,I6,← HC.out] at a0 hcx
   have HX:=Hu hcx
   clear hx q hcx
   by_cases hx0:x3=b
   ·go_wp2
    go_roundw
    case rel=>exact ⟨k+1,by omega,by go_num,by trivial,by rw [HX.out,if_pos (by simpa using hx0)];go_num⟩
    case measure=>simp [intOf];omega
   ·go_wp2
    go_roundw
    case rel=>exact ⟨k+1,by omega,by go_num,by trivial,by rw [HX.out,if_neg (by simpa using hx0)];rfl⟩
    case measure=>simp [intOf];omega
  ·have hge:¬ (X.flows.length:Int)<(X.flows.length:Int):=by omega
   obtain rfl:n=flB X b:=by rw [HC.out,List.take_length];rfl
   go_wp2
   go_ret
   exact ⟨rfl,HB.out⟩
theorem A0h {P:Program} {ops:Array Oper} {rest:List Oper} {op:Oper} {a:Act} {w:World} {Q:Exit→Act→World→Prop} (hw:Region.wanted op (yielded ops a.tmps)=true) (ty:TypeId) (x:Operand) (ho:op.op=.load ty x)
  (b o:Nat) (hx:a.eval x=.pointer (some ⟨b,o,none⟩)) (cs:List Value) (d:TypeDesc) (hc:w.rangeAt b o cs)
  (hu:P.underlying ty=some d) (hd:d.isRow=true) (hi:(P.info? ty).map (·.size)=some cs.length)
  (h:wpList P ops Q rest (a.put op.dst (.agg cs.toArray)) w):wpList P ops Q (op :: rest) a w:=
 wpList_step fun _ hK=>by rw [if_pos hw];exact wp_load_mid ty x ho b o hx cs d hc hu hd hi (hK _ _ h)
theorem walk_TopDrain (v0 v1 v2 v3:Value) (W:World) (o0:Is_Setup W v0) (o1:Is_sl_Deed W v1) (o2:Is_int W v2) (o3:Is_sl_Deed W v3):Calls Tryz.prog 7 #[v0,v1,v2,v3] W fun e w'=>e=.returned (.bool true)∧Below W.heap.size W w':=by
 obtain ⟨s,rfl,hs⟩:=o0
 obtain ⟨L,hr,hd,_⟩:=o1
 obtain ⟨av,cv,rfl,_⟩:=aq hr
 obtain ⟨nb,rfl,hnb⟩:=o2
 obtain ⟨M,hrM,hdM,_⟩:=o3
 obtain ⟨am,cm,rfl,_⟩:=aq hrM
 have I0zz:=Hu hnb
 have HRM:=Hu (show aI W 4 (.slice am M.length cm) (M.map Dd.cells) from hrM)
 have HDM:=Hu (show ∀ d∈M,d.ok from hdM)
 clear hnb hrM hdM
 have hcf:=Gt s
 have hat:=xS hcf L (most:=50) (by omega)
 have hpl:∀ w',Below W.heap.size W w'→Calls Tryz.prog 8 #[.agg (Su.cells s).toArray,.slice av L.length cv,.int .i64 ((50:Nat):Int)] w' (GN w' (Gu s) L 50):=fun w' hb=>H8 s hs L hd _ (au hr hb) 50 (by omega)
 obtain ⟨c,hc⟩:∃ c,c=Gu s:=⟨_,rfl⟩
 rw [← hc] at hpl hcf hat
 obtain ⟨SA,hSA⟩:∃ SA,SA=(Su.cells s).toArray:=⟨_,rfl⟩
 rw [← hSA] at hpl ⊢
 have HSI:=Hu (show (Tryz.prog.info? 24).map (·.size)=some SA.size by rw [hSA];show _=some 16;kernel_rfl)
 have HPl:=Hu hpl
 have HF:=Hu hcf
 have HAt:=Hu hat
 have HK:=Hu (show (W.alloc (.cells SA 24 (0,0))).heap[W.heap.size]?=some (.cells SA 24 (0,0)) from az _ rfl)
 have HB0:=Hu (show Below W.heap.size W (W.alloc (.cells SA 24 (0,0))) from (Hv _ _).alloc (I3 _) _)
 clear hs hd hr hcf hc hSA hat hpl
 go_enter Tryz.func7,Tryz.ntmps7
 go_wp2_with (first|(refine Iy rfl 24 (.tmp 4) rfl W.heap.size rfl 24 SA (0,0) _ HK.out Tryz.underlying24 rfl HSI.out ?_)|(go_at_call 8;refine (HPl.out _ HB0.out).mono ?_;rintro e w1 ⟨p,VL,MS,vs,vg,rfl,hpg,hb1⟩;have hw1:=HB0.out.trans (hb1.mono HB0.out.size);have HW1:=Hu hw1;have HPg:=Hu hpg;clear hb1 hpg hw1))
 obtain ⟨P0,hP0⟩:∃ P,P=iI (dy c) L 50:=⟨_,rfl⟩
 have hlow:=A0x HF.out L (most:=50) (by omega)
 rw [← hP0] at HPg HAt hlow
 obtain ⟨n,hn⟩:∃ n,n=4+(L.take 50).length:=⟨_,rfl⟩
 have hn54:n≤54:=by rw [hn,Ii];omega
 rw [← hn] at HAt
 have hpk:=cU nb (m:=5) (by decide)
 have HPi:=Hu (fun w0=>bL nb 5 w0 I0zz.out.1 I0zz.out.2 (by decide) (by decide))
 obtain ⟨b,hb⟩:∃ b,b=pk nb 5:=⟨_,rfl⟩
 rw [← hb] at HPi hpk
 have hev:EvGood (lk 2000 b):=DI (by decide) (by decide) hpk.1 (by omega)
 have HDo:=Hu (pV HPg.out HAt.out.ok (lk 2000 b) hev (by rw [HAt.out.len];omega) (by rw [HAt.out.len];exact HAt.out.gl))
 have haf:=A1e HAt.out (by omega) (b:=b) ⟨hpk.1,by omega⟩ hlow
 have hat:=HAt.out.doP hev (by omega)
 obtain ⟨T,hT⟩:=A1g HAt.out b
 have hnow:(sI P0 (lk 2000 b)).last.now=P0.last.now:=by
  have h1:=do_now HAt.out.ok.wd (A0e HAt.out (by omega) hev)
  rw [if_neg (by show ¬ (6:Int)=7;decide)] at h1
  exact h1
 have hn0:=HAt.out.ok.wd.gw.n0
 have hnn:=HAt.out.ok.nw
 rw [HAt.out.len] at hnn
 obtain ⟨P1,hP1⟩:∃ P,P=sI P0 (lk 2000 b):=⟨_,rfl⟩
 obtain ⟨nw,hnw⟩:∃ q,q=P0.last.now:=⟨_,rfl⟩
 obtain ⟨an,han⟩:∃ q,q=(wW P0.last (lk 2000 b)).ans:=⟨_,rfl⟩
 obtain ⟨g,hg⟩:∃ q,q=if an=0 then 1 else 0:=⟨_,rfl⟩
 rw [← hP1,← hnw] at hnow
 rw [← hP1,← han] at hT
 rw [← hP1,← hnw,← han,← hg] at haf
 rw [← hP1] at HDo hat
 rw [← hnw] at hn0 hnn
 have hgc:(an=0∧g=1)∨((an == 0)=false∧g=0):=by
  by_cases h0:an=0
  ·exact Or.inl ⟨h0,by rw [hg,if_pos h0]⟩
  ·exact Or.inr ⟨by simpa using h0,by rw [hg,if_neg h0]⟩
 obtain ⟨B,hB⟩:∃ B,B=(W.alloc (.cells SA 24 (0,0))).heap.size:=⟨_,rfl⟩
 rw [← hB] at HDo
 have hWB:W.heap.size≤B:=by rw [hB];simp
 have HT:=Hu hT
 have HNow:=Hu hnow
 have HAf:=Hu haf
 have HAt1:=Hu hat
 have HDr:=Hu (show 1≤c.drain∧c.drain≤500 by have:=HF.out.1.1;omega)
 obtain ⟨dr,hdr⟩:∃ q,q=c.drain:=⟨_,rfl⟩
 rw [← hdr] at HAf HDr
 have HDre:=Hu hdr
 clear hP0 hn hb hev haf hat hT hnow hP1 hnw han hdr hg hlow hpk HPg HAt hB
 refine (HPi.out _).mono ?_
 rintro e w_ ⟨rfl,hE⟩
 subst w_
 go_wp2_with fail
 refine HDo.out.mono ?_
 rintro e w2 ⟨V2,M2,vs2,vg2,rfl,hpg,hb2⟩
 have HB2:=Hu hb2
 have HP1:=Hu hpg
 have hl1:=HAt1.out.len
 obtain ⟨as_,cs_,x16,hso⟩:=hpg.so
 obtain ⟨bs,os,VA,rfl,_,_,_,ao,co,x60,_,hou⟩:=hso n (by omega)
 rw [HT.out] at x60 hou
 obtain ⟨bo,oo,rfl,_,q⟩:=hou (by simp)
 have a0:=q 0 0 (by simp) (by omega)
 have a1:=q 0 1 (by simp) (by omega)
 have a2:=q 0 2 (by simp) (by omega)
 have a3:=q 0 3 (by simp) (by omega)
 have a4:=q 0 4 (by simp) (by omega)
 have a5:=q 0 5 (by simp) (by omega)
 have a6:=q 0 6 (by simp) (by omega)
 simp only [List.getD_cons_zero,Out.cells,I5,I6,Nat.zero_mul,Nat.add_zero] at a0 a1 a2 a3 a4 a5 a6
 obtain ⟨tn,htn⟩:∃ q,q=T.length:=⟨_,rfl⟩
 rw [List.length_cons,← htn] at x60
 rw [hl1] at x16
 have t1:(0:Int)<(tn:Int)+1:=by omega
 have k0:(0:Int)≤(n:Int):=by omega
 have k1:(n:Int)<(n:Int)+1:=by omega
 have k2:IntKind.i64.wrap ((n:Int)+1 - 1)=(n:Int):=by rw [show (n:Int)+1 - 1=n by omega];exact Iw _ (by omega)
 clear q hou hso htn hl1
 rcases hgc with ⟨rfl,hg0⟩|⟨d0,hg0⟩
 all_goals (
  go_upto_region 8 with fail
  have x33:w2.cell? ⟨p,33,none⟩=some (.int .i64 nw):=by rw [ae HP1.out.bk 33,← HNow.out];rfl
  have x5:w2.cell? ⟨p,5,none⟩=some (.int .i64 dr):=by rw [ae HP1.out.bk 5,HDre.out];rfl
  have hdr:=HDr.out
  have k3:IntKind.i64.wrap (nw+dr)=nw+dr:=Iw _ (by omega)
  clear a0 a1 a2 a3 a4 a5 a6 x60 x16 t1 k0 k1 k2 hb2 hpg
  go_quiet (fail)
  go_wp2
  have HQ1:=Hu (show PlR B p w1 c P1 (w2.drewN nq) from ⟨aJ HB2.out,V2,M2,vs2,vg2,HP1.out.below (aJ (Hv _ _))⟩)
  go_loopw [10,15] (fun ok i wr=>∃ (k:Nat) (P:lA),k≤M.length∧k≤20∧i=.int .i64 k∧ok=.bool true∧PlyAt c P (n+1+k)∧A0l b (nw+dr) n g P∧PlR B p w1 c P wr) (fun _ i _=>20 - (intOf i).toNat)
  case atStart=>exact ⟨0,P1,I4 _,I4 _,rfl,rfl,HAt1.out,HAf.out,HQ1.out⟩
  case round=>
   obtain ⟨k,P,hk,hk20,rfl,rfl,hat,haf,hrl⟩:=hrel
   obtain ⟨hbr,Vk,Mk,vsk,vgk,hpg⟩:=hrl
   have HBr:=Hu hbr
   have HPk:=Hu hpg
   have HAk:=Hu hat
   have HFk:=Hu haf
   have hrow:=au HRM.out (HW1.out.trans (hbr.mono hWB))
   clear hpg hbr hat haf x33 x5
   rcases (show (k<M.length∧k<20)∨¬ (k<M.length∧k<20) by omega) with hlt|hq
   ·have h1:(k:Int)<(M.length:Int):=by omega
    have h2:(k:Int)<20:=by omega
    have k0:(0:Int)≤(k:Int):=by omega
    obtain ⟨_,_,e1,_,_,_,q1⟩:=hrow
    simp only [Value.slice.injEq,I9] at e1
    obtain ⟨rfl,-,rfl⟩:=e1
    obtain ⟨b2,o2,rfl,hb2,q3⟩:=q1 (by intro e;have:=congrArg List.length e;rw [I9,List.length_nil] at this;omega)
    have a0:=q3 k 0 (by simpa using hlt.1) (by omega)
    have a1:=q3 k 1 (by simpa using hlt.1) (by omega)
    have a2:=q3 k 2 (by simpa using hlt.1) (by omega)
    have a3:=q3 k 3 (by simpa using hlt.1) (by omega)
    have hdk:=HDM.out (M.getD k Dd.zero) (by rw [aN hlt.1];exact If _)
    rw [kx Dd.cells hlt.1 Dd.zero] at a0 a1 a2 a3
    obtain ⟨d,hd⟩:∃ d,d=M.getD k Dd.zero:=⟨_,rfl⟩
    rw [← hd] at a0 a1 a2 a3 hdk
    obtain ⟨d0,d1,d2,d3⟩:=d
    simp only [Dd.cells,I5,I6,Nat.add_zero] at a0 a1 a2 a3
    have HEv:=Hu (xQ HPk.out (by have:=HAk.out.gl;omega) ⟨d0,d1,d2,d3⟩ hdk)
    have hrq:=A0t P.given ⟨d0,d1,d2,d3⟩
    have hgd:=qK HAk.out.ok.gi ⟨d0,d1,d2,d3⟩
    obtain ⟨ev,hev⟩:∃ ev,ev=Hg P.given ⟨d0,d1,d2,d3⟩:=⟨_,rfl⟩
    rw [← hev] at HEv hrq hgd
    have HDk:=Hu (show ∀ w',Below wr.heap.size wr w'→Calls Tryz.prog 11 #[.pointer (some ⟨p,0,none⟩),.agg (Ev.cells ev).toArray] w' (zQ B p w' c (sI P ev)) from fun w' hb'=>pV (HPk.out.below hb') HAk.out.ok ev hgd (by rw [HAk.out.len];omega) (by rw [HAk.out.len];exact HAk.out.gl))
    have HNx:=Hu (And.intro (HAk.out.doP hgd (by omega)) (A0u HAk.out (by omega) hgd hrq HFk.out))
    clear hd hev hdk hrq hgd q3 q1
    go_wp2_with (first|(go_at_call 16;refine HEv.out.mono ?_;rintro e w6 ⟨rfl,hb6⟩)|(go_at_call 11;refine (HDk.out _ hb6).mono ?_;rintro e w7 ⟨V7,M7,vs7,vg7,rfl,hpg7,hb7⟩))
    go_roundw
    case rel=>exact ⟨k+1,_,by omega,by omega,by go_num,rfl,HNx.out.1,HNx.out.2,(HBr.out.trans (hb6.mono (Iq (by have:=HPk.out.pB;have:=lt_of_block HPk.out.bk;omega) (I3 _)))).trans hb7,V7,M7,vs7,vg7,hpg7⟩
    case measure=>simp [intOf];omega
   ·clear hrow
    rcases (show ((k:Int)<(M.length:Int)∧¬ (k:Int)<20)∨¬ (k:Int)<(M.length:Int) by omega) with ⟨h1,h2⟩|h1
    all_goals (
     go_wp2
     go_loopw [10] (fun ok wr=>∃ (Q:lA) (m:Nat),ok=.bool true∧PlyAt c Q m∧m+(nw+dr - Q.last.now).toNat≤700∧A0l b (nw+dr) n g Q∧PlR B p w1 c Q wr) (fun _ w=>(nw+dr - intOf ((w.cell? ⟨p,33,none⟩).getD (.int .i64 0))).toNat)
     case atStart=>exact ⟨P,_,rfl,HAk.out,by have:=HAk.out.ok.wd.gw.n0;omega,HFk.out,HBr.out,Vk,Mk,vsk,vgk,HPk.out⟩
     case round=>
      obtain ⟨Q,m,rfl,hat,hm,haf,hrl⟩:=hrel
      obtain ⟨hbq,Vq,Mq,vsq,vgq,hpg⟩:=hrl
      have HBq:=Hu hbq
      have HPq:=Hu hpg
      have HAq:=Hu hat
      have HFq:=Hu haf
      have x33:wr.cell? ⟨p,33,none⟩=some (.int .i64 Q.last.now):=by rw [ae hpg.bk 33];rfl
      obtain ⟨nq,hnq⟩:∃ q,q=Q.last.now:=⟨_,rfl⟩
      rw [← hnq] at x33 hm
      have HNq:=Hu hnq
      clear hbq hpg hat haf hnq
      by_cases hu:nq<nw+dr
      ·have HDq:=Hu (pV HPq.out HAq.out.ok gX kR (by rw [HAq.out.len];omega) (by rw [HAq.out.len];exact HAq.out.gl))
       have hdn:(sI Q gX).last.now=nq+1:=by
        have h3:=do_now HAq.out.ok.wd (A0e HAq.out (by omega) kR)
        rw [if_pos (show gX.kind=7 from rfl),← HNq.out] at h3
        exact h3
       have HNx:=Hu (And.intro (HAq.out.doP kR (by omega)) (A0u HAq.out (by omega) kR (by decide) HFq.out))
       have HDn:=Hu hdn
       have X33:=Hu x33
       clear hdn
       go_wp2_with (go_at_call 11;refine HDq.out.mono ?_;rintro e w5 ⟨V5,M5,vs5,vg5,rfl,hpg5,hb5⟩)
       go_roundw
       case rel=>exact ⟨_,m+1,rfl,HNx.out.1,by rw [HDn.out];omega,HNx.out.2,HBq.out.trans hb5,V5,M5,vs5,vg5,hpg5⟩
       case measure=>
        have y33:w5.cell? ⟨p,33,none⟩=some (.int .i64 (nq+1)):=by rw [ae hpg5.bk 33,← HDn.out];rfl
        rw [y33,X33.out]
        simp [intOf]
        omega
      ·have hend:=A0z HAq.out.ok HFq.out (by rw [← HNq.out];omega)
       obtain ⟨as_,cs_,hx16,hso⟩:=HPq.out.so
       have HX16:=Hu hx16
       have HSo:=Hu hso
       have HLp:=Hu (lt_of_block HPq.out.bk)
       have HEnd:=Hu hend
       have HnQ:=Hu HFq.out.l
       have HWq:=Hu (HW1.out.trans (HBq.out.mono hWB))
       have hlq:Q.steps.length≤700:=by have:=HAq.out.len;omega
       clear hx16 hso hend
       go_wp2
       obtain ⟨wo,rfl⟩:∃ x,x=wr:=⟨_,rfl⟩
       clear x33
       go_loopw [16,17] (fun v i w4=>∃ j:Nat,n≤j∧j≤Q.steps.length∧i=.int .i64 j∧v=.int .i64 ((goS ((Q.steps.take j).drop n):Nat):Int)∧Below wo.heap.size wo w4) (fun _ i _=>Q.steps.length - (intOf i).toNat)
       case atStart=>
        refine ⟨n,I3 _,HnQ.out,rfl,?_,Hv _ _⟩
        rw [show (Q.steps.take n).drop n=[] from List.drop_eq_nil_of_le (by rw [Ii];omega)]
        rfl
       case round=>
        obtain ⟨j,hnj,hj,rfl,rfl,hbj⟩:=hrel
        have HBj:=Hu hbj
        have x16:=ah hbj HX16.out HLp.out
        clear hbj
        rcases (show j<Q.steps.length∨j=Q.steps.length by omega) with hlj|rfl
        ·have hlj':(j:Int)<(Q.steps.length:Int):=by omega
         have j0:(0:Int)≤(j:Int):=by omega
         obtain ⟨bs,os,VA,rfl,hbs,hra,hwa,ao,co,c60,hml,hou⟩:=HSo.out j hlj
         obtain ⟨hg2,hg3⟩:=A0v hnj hlj
         have hmem:Q.steps.getD j Stp.zero∈Q.steps:=by rw [aN hlj];exact If _
         have hmd:Q.steps.getD j Stp.zero∈Q.steps.drop n:=by
          rw [aN hlj,List.mem_drop_iff_getElem]
          exact ⟨j - n,by omega,by congr 1;omega⟩
         have hok:=(HAq.out.ok.st _ hmem).2.1.gw
         have hgo:=HFq.out.o _ hmd
         rw [HEnd.out] at hg3
         obtain ⟨s,hs⟩:∃ s,s=Q.steps.getD j Stp.zero:=⟨_,rfl⟩
         rw [← hs] at hra hwa c60 hou hg2 hg3 hok hgo hml
         obtain ⟨O,hO⟩:∃ O,O=s.out:=⟨_,rfl⟩
         rw [← hO] at c60 hou hg2 hg3 hgo hml
         have hml2:O.length≤9223372036854775807:=by unfold maxLen at hml;omega
         obtain ⟨n0,hn0⟩:∃ q,q=goS ((Q.steps.take j).drop n):=⟨_,rfl⟩
         rw [← hn0] at hg2 hg3 ⊢
         obtain ⟨X,hX⟩:∃ X,X=s.af:=⟨_,rfl⟩
         rw [← hX] at hra hwa hok hgo
         have c60:=ah HBj.out c60 hbs
         have HOu:=Hu hou
         have HG2:=Hu hg2
         have HGo:=Hu hgo
         have HGw:=Hu hok
         have HRa:=Hu hra
         have HWa:=Hu hwa
         have HLb:=Hu hbs
         have C60:=Hu c60
         clear hs hO hn0 hX hmem hmd hra hwa hou hg2 hgo hok hbs hml
         have X16:=Hu x16
         go_wp2
         obtain ⟨wi,rfl⟩:∃ x,x=wr:=⟨_,rfl⟩
         clear c60 x16
         go_loopw [16,18] (fun v i w5=>∃ m:Nat,m≤O.length∧i=.int .i64 m∧v=.int .i64 ((n0+(O.take m).countP (goI 2000):Nat):Int)∧Below wi.heap.size wi w5) (fun _ i _=>O.length - (intOf i).toNat)
         case atStart=>exact ⟨0,I4 _,rfl,rfl,Hv _ _⟩
         case round=>
          obtain ⟨m,hm,rfl,rfl,hbm⟩:=hrel
          have HBm:=Hu hbm
          have c60:=ah hbm C60.out (Nat.lt_of_lt_of_le HLb.out HBj.out.size)
          have x16:=ah hbm X16.out (Nat.lt_of_lt_of_le HLp.out HBj.out.size)
          have hbw:=HBj.out.trans (hbm.mono HBj.out.size)
          have HBw:=Hu hbw
          have hcm:(O.take (m+1)).countP (goI 2000)≤O.countP (goI 2000):=(List.take_sublist _ _).countP_le
          clear hbm
          rcases (show m<O.length∨m=O.length by omega) with hlm|rfl
          ·have hlm':(m:Int)<(O.length:Int):=by omega
           have m0:(0:Int)≤(m:Int):=by omega
           obtain ⟨bo,oo,rfl,hbo,q⟩:=HOu.out (by omega)
           have a0:=ah hbw (q m 0 hlm (by omega)) hbo
           have a1:=ah hbw (q m 1 hlm (by omega)) hbo
           have a2:=ah hbw (q m 2 hlm (by omega)) hbo
           have a3:=ah hbw (q m 3 hlm (by omega)) hbo
           have a4:=ah hbw (q m 4 hlm (by omega)) hbo
           have a5:=ah hbw (q m 5 hlm (by omega)) hbo
           have a6:=ah hbw (q m 6 hlm (by omega)) hbo
           have hcn:=A0f (d:=Out.zero) (goI 2000) hlm
           have hxm:O.getD m Out.zero∈O:=by rw [aN hlm];exact If _
           obtain ⟨x,hx⟩:∃ x,x=O.getD m Out.zero:=⟨_,rfl⟩
           rw [← hx] at a0 a1 a2 a3 a4 a5 a6 hcn hxm
           have hgx:=HGo.out x hxm
           obtain ⟨x0,x1,x2,x3,x4,x5,x6⟩:=x
           simp only [Nat.add_zero] at a0 a1 a2 a3 a4 a5 a6
           simp only at hgx
           obtain ⟨nczz,hnc⟩:∃ q,q=n0+(O.take m).countP (goI 2000):=⟨_,rfl⟩
           have HNc:=Hu (show (n0+(O.take (m+1)).countP (goI 2000):Nat)=nczz+(if (x0 == 9 && x4 == 2000)=true then 1 else 0) by rw [hcn,hnc];exact (Nat.add_assoc _ _ _).symm)
           have hnc1:nczz≤1:=by omega
           rw [← hnc]
           clear hx hxm q hcn hnc hcm
           by_cases hxx:x0=9∧x4=2000
           ·obtain ⟨rfl,rfl⟩:=hxx
            obtain ⟨rfl,h4⟩:=hgx rfl rfl
            have hnx:=HNc.out
            rw [if_pos (by decide)] at hnx
            have HNx:=Hu hnx
            have hf0:=A0y HGw.out h4
            have hfw:∀ w',Below wr.heap.size wr w'→Calls Tryz.prog 17 #[.agg (dj X VA).toArray,.int .i64 x3] w' fun e w''=>e=.returned (.int .i64 0)∧Below w'.heap.size w' w'':=fun w' hb'=>by
             have h5:=A0o (HWa.out.below (HBw.out.trans (hb'.mono HBw.out.size))) HGw.out.len x3
             unfold flB at h5
             rw [hf0] at h5
             exact h5
            have hra:=Ct HBw.out HLb.out HRa.out
            have hlb:=Nat.lt_of_lt_of_le HLb.out HBw.out.size
            have hlpw:=Nat.lt_of_lt_of_le HLp.out HBw.out.size
            obtain ⟨LA,hLA⟩:∃ LA,LA=dj X VA:=⟨_,rfl⟩
            have HIA:=Hu (show (Tryz.prog.info? 63).map (·.size)=some LA.length by rw [hLA,iT];kernel_rfl)
            rw [← hLA] at hfw hra
            have HFw:=Hu hfw
            have HRr:=Hu hra
            have HLr:=Hu hlb
            clear hfw hra hlb hLA hf0 h4 hgx hnx
            go_wp2_with (first|(refine A0h (by rfl) 63 (.tmp 167) rfl bs (os+j*61+34) rfl LA _ (Ct (show Below wr.heap.size wr _ from Zb) HLr.out HRr.out) Tryz.underlying63 rfl HIA.out ?_)|(go_at_call 17;refine (HFw.out _ Zb).mono ?_;rintro e w6 ⟨rfl,hb6⟩))
            exact ⟨⟨m+1,by omega,by go_num,by rw [HNx.out];go_num,HBm.out.trans ((I0 (show Below wr.heap.size wr _ from Zb) (hb6.mono (by simp))).mono HBm.out.size)⟩,by simp [intOf];omega⟩
           ·have HNx:=Hu (show n0+(O.take (m+1)).countP (goI 2000)=nczz by rw [HNc.out,if_neg (by simpa using hxx),Nat.add_zero])
            have hd:(x0 == 9)=false∨(x0=9∧(x4 == 2000)=false):=by
             by_cases h9:x0=9
             ·right;exact ⟨h9,by simpa using fun h=>hxx ⟨h9,h⟩⟩
             ·left;simpa using h9
            clear hxx hgx
            rcases hd with d9|⟨rfl,d4⟩
            all_goals (
             go_wp2
             go_roundw
             case rel=>exact ⟨m+1,by omega,by go_num,by rw [HNx.out],HBm.out.trans ((show Below wr.heap.size wr _ from Zb).mono HBm.out.size)⟩
             case measure=>simp [intOf];omega)
          ·have hge:¬ (O.length:Int)<(O.length:Int):=by omega
           rw [List.take_length]
           have HG3:=Hu hg3
           obtain ⟨nczz,hnc⟩:∃ q,q=n0+O.countP (goI 2000):=⟨_,rfl⟩
           have hg2:=HG2.out
           rw [← hnc] at hg2 ⊢
           have HG4:=Hu hg2
           have hnc1:nczz≤1:=by omega
           clear hnc hcm hg2
           go_wp2
           go_roundw
           case rel=>exact ⟨j+1,by omega,by omega,by go_num,by rw [HG4.out],HBj.out.trans (HBm.out.mono HBj.out.size)⟩
           case measure=>simp [intOf];omega
        ·have hge:¬ (Q.steps.length:Int)<(Q.steps.length:Int):=by omega
         rw [List.take_length,HEnd.out,hg0]
         go_wp2
         go_ret
         exact ⟨rfl,HWq.out.trans (HBj.out.mono HWq.out.size)⟩))
end Go.Proofs.YtfliffgmeobclaaGreat
