/- Texts of the row's proof. Conditions: none. -/
import Derived.Test.YtneailjecbfljaaGreatDoorK34
namespace Go.Proofs.YtneailjecbfljaaGreatDoor
set_option maxRecDepth 100000
set_option maxHeartbeats 8000000
section
open Go.RowKit
def tZ (T:List Sl) (sl gn:Int):Int:=if sl<0∨(T.length:Int)≤sl then 8 else if (T.getD sl.toNat Sl.zero).used=true∧(T.getD sl.toNat Sl.zero).gen=gn then 0 else 10
theorem DI {T:List Sl} (h:dL T) (sl gn:Int):∃ o,nR T sl gn o (tZ T sl gn):=by
 unfold tZ;by_cases h1:sl<0∨(T.length:Int)≤sl
 ·rw [if_pos h1];exact ⟨Sl.zero,Or.inr (Or.inl ⟨h,by omega,rfl,rfl⟩)⟩
 ·rw [if_neg h1];obtain ⟨i,rfl⟩:=Id (by omega:0≤sl);rw [I9];by_cases h2:(T.getD i Sl.zero).used=true∧(T.getD i Sl.zero).gen=gn
  ·rw [if_pos h2];exact ⟨_,Or.inr (Or.inr ⟨h,i,by omega,rfl,Or.inl ⟨h2.1,h2.2,rfl,rfl⟩⟩)⟩
  ·rw [if_neg h2];refine ⟨Sl.zero,Or.inr (Or.inr ⟨h,i,by omega,rfl,Or.inr ⟨?_,rfl,rfl⟩⟩)⟩
   cases hu:(T.getD i Sl.zero).used with
   | false=>exact Or.inl rfl
   | true=>exact Or.inr ⟨rfl,fun e=>h2 ⟨hu,e⟩⟩
def eY (X:Wd) (sl:Int):Nat:=(aQ (mI sl) X.flows).toNat
theorem yy {X:Wd} (h:GwMay X) {sl gn:Int} (hc:tZ X.tab sl gn=0):aQ (mI sl) X.flows=(eY X sl:Int)∧eY X sl<X.flows.length∧(X.flows.getD (eY X sl) Fl.zero).slot=sl∧(X.flows.getD (eY X sl) Fl.zero).gen=gn:=by
 unfold tZ at hc;by_cases h1:sl<0∨(X.tab.length:Int)≤sl
 ·rw [if_pos h1] at hc;omega
 ·rw [if_neg h1] at hc;by_cases h2:(X.tab.getD sl.toNat Sl.zero).used=true∧(X.tab.getD sl.toNat Sl.zero).gen=gn
  ·obtain ⟨f,hf,hs⟩:=h.us sl.toNat (by omega) h2.1;have hs':f.slot=sl:=by omega
   rcases bJ (mI sl) X.flows Fl.zero with ⟨_,hn⟩|⟨i,hi,he,hp,_⟩
   ·have:=hn f hf;simp [mI,hs'] at this
   ·have ha:eY X sl=i:=by unfold eY;rw [he];simp
    rw [ha];have hsl:(X.flows.getD i Fl.zero).slot=sl:=by simpa [mI] using hp
    have hm:X.flows.getD i Fl.zero∈X.flows:=by rw [aO hi];exact Ib hi
    have h3:=(h.fl _ hm).sl;rw [hsl] at h3;exact ⟨he,hi,hsl,by rw [← h2.2,h3]⟩
  ·rw [if_neg h2] at hc;omega
def iT (X:Wd) (i:Nat):Wd:={ X with flows:=X.flows.set i { X.flows.getD i Fl.zero with serving:=true } }
def mB (X:Wd) (i:Nat):Wd:={ X with flows:=X.flows.set i { X.flows.getD i Fl.zero with due:=X.now+X.cf.idle },lists:=jD X.now X.lists (X.flows.getD i Fl.zero).slot X.cf.idle }
def fj (X:Wd) (e:Ev):Wd×List Out:=
 if tZ X.tab e.slot e.gen≠0 then (X,[⟨10,0,0,0,0,tZ X.tab e.slot e.gen,0⟩])
 else if e.kind=3 then gO X (eY X e.slot) 7 0
 else if e.kind=2 then (if (X.flows.getD (eY X e.slot) Fl.zero).serving=true then mB X (eY X e.slot) else X,[⟨3,e.slot,e.gen,(X.flows.getD (eY X e.slot) Fl.zero).backend,0,0,0⟩])
 else if (X.flows.getD (eY X e.slot) Fl.zero).serving=true then (X,[⟨10,0,0,0,0,7,0⟩])
 else if e.good=true then (mB (bU (iT X (eY X e.slot)) (X.flows.getD (eY X e.slot) Fl.zero).backend.toNat false) (eY X e.slot),[⟨4,e.slot,e.gen,(X.flows.getD (eY X e.slot) Fl.zero).backend,0,0,0⟩])
 else eU X (eY X e.slot) 3
def bM (X:Wd):Wd:={ X with now:=X.now+1,wnow:=X.now+1,lists:=bK (X.now+1) (X.lists.flatten.filter fun t=>decide (X.now+1<t.at_)),lives:=X.lives.map (Lf.wk (X.now+1)) }
def eM (X:Wd):List Int:=(iC (X.lists.flatten.filter fun t=>t.at_ == X.now+1)).map Tm.id
def dp (X:Wd):List Int:=lD X.lives X.lives.length
def oG (L:List Lf) (y:Int):Int:=((dD L y).map Lf.weight).getD 0
def gp (X:Wd) (y:Int):Wd:={ X with ring:=bO ((gh X.ring).set y.toNat (oG X.lives y).toNat),health:=X.health.set y.toNat Ht.zero }
def fD (X:Wd) (k:Nat):Wd:=((dp X).take k).foldl gp (bM X)
def cu (X:Wd):Wd:=(dp X).foldl gp (bM X)
theorem po:∀ (L:List Int) (P:Wd),(L.foldl gp P).reqs=P.reqs∧(L.foldl gp P).cf=P.cf∧(L.foldl gp P).now=P.now
 | [],_=>⟨rfl,rfl,rfl⟩
 | y :: L,P=>po L (gp P y)
theorem FG {L:List Lf} {R:List Rq} {b:Int} {x:Lf} (h:bG L R) (hx:dD L b=some x):xq L R b x 0:=by
 rcases bJ (cE b) L Lf.zero with ⟨h1,_⟩|⟨i,hi,h1,_⟩
 ·rw [(fH L b).1 h1] at hx
  cases hx
 ·have:=(fH L b).2 i h1 hi;rw [hx] at this;exact Or.inr (Or.inr ⟨h,⟨i,hi,h1,Option.some.inj this⟩,rfl⟩)
def fI (now:Int) (h:Ht):Ht:=if h.out=true∧h.until_≤now then { h with out:=false,until_:=0 } else h
def gm (X:Wd) (k:Nat):Wd:={ X with health:=(X.health.take k).map (fI X.now)++X.health.drop k }
def iS (X:Wd):Wd:={ cu X with health:=(cu X).health.map (fI (cu X).now) }
def lX (P:Wd×List Out) (slot:Int):Wd×List Out:=
 if (P.1.flows.getD (eY P.1 slot) Fl.zero).serving=true then ((gO P.1 (eY P.1 slot) 6 1).1,P.2++(gO P.1 (eY P.1 slot) 6 1).2)
 else ((eU P.1 (eY P.1 slot) 5).1,P.2++(eU P.1 (eY P.1 slot) 5).2)
def fU (X:Wd) (k:Nat):Wd×List Out:=((eM X).take k).foldl lX (iS X,[])
def bV (X:Wd):Wd×List Out:=(eM X).foldl lX (iS X,[])
def oO (P:Wd×List Out) (slot:Int):Wd×List Out:=((gO P.1 (eY P.1 slot) 6 2).1,P.2++(gO P.1 (eY P.1 slot) 6 2).2)
def dI (T:List Sl) (b:Int):List Int:=(iV T b T.length).map Hd.slot
def gb (P:Wd×List Out) (x:Lf):Wd×List Out:=if x.state≠3∨P.1.now<x.until_ then P else (dI P.1.tab x.backend).foldl oO P
def dV (X:Wd) (k:Nat):Wd×List Out:=((bV X).1.lives.take k).foldl gb (bV X)
def j9 (X:Wd):Wd×List Out:=(bV X).1.lives.foldl gb (bV X)
def mO (P:Wd×List Out) (b:Int) (j:Nat):Wd×List Out:=((dI P.1.tab b).take j).foldl oO P
theorem kS {α β:Type} (f:β→α→β) (b:β) (L:List α) (d:α) {k:Nat} (h:k<L.length):(L.take (k+1)).foldl f b=f ((L.take k).foldl f b) (L.getD k d):=by
 rw [I6 h,List.foldl_append,aO h]
 rfl
theorem jl {α β:Type} (f:β→α→β) (b:β) (L:List α):(L.take L.length).foldl f b=L.foldl f b:=by rw [Ia (Hz _)]
theorem yG (X:Wd) {k:Nat} (h:k<X.health.length):(gm X (k+1)).health=(gm X k).health.set k (fI X.now (X.health.getD k Ht.zero)):=by
 unfold gm;simp only;rw [I6 h,aO h]
 have hl:((X.health.take k).map (fI X.now)).length=k:=by simp;omega
 have e:X.health.drop k=X.health[k] :: X.health.drop (k+1):=(List.getElem_cons_drop h).symm;rw [List.set_append_right k _ (by omega),hl,Nat.sub_self,e];simp only [Im,List.map_cons,List.map_nil,List.append_assoc,List.singleton_append,List.set_cons_zero]
theorem Ed (X:Wd) {k:Nat} (h:k<X.health.length):(gm X k).health.getD k Ht.zero=X.health.getD k Ht.zero:=by
 unfold gm;simp only
 have hl:((X.health.take k).map (fI X.now)).length=k:=by simp;omega
 simp only [List.getD];rw [Iy (by omega),hl,Nat.sub_self,List.getElem?_drop];simp
theorem BC (X:Wd) (k:Nat):(gm X k).health.length=X.health.length:=by unfold gm;simp;omega
def gF (X:Wd) (sl:Int):Prop:=aQ (mI sl) X.flows=(eY X sl:Int)∧eY X sl<X.flows.length
structure zM (X:Wd):Prop where
 wh:WhMay X.now X.lists
 wn:X.wnow=X.now
 n0:0≤X.now
 n1:X.now<1099511626776
 bk:bG X.lives X.reqs
 bk2:bG (bM X).lives X.reqs
 hl:X.health.length=12
 hl1:(cu X).health.length=12
 wo:∀ k,k<(dp X).length→0≤(dp X).getD k 0∧(dp X).getD k 0≤11∧(∃ x,dD (bM X).lives ((dp X).getD k 0)=some x∧1≤x.weight∧x.weight≤8)∧RgMay (fD X k).ring∧(fD X k).lives=(bM X).lives∧(fD X k).health.length=12∧(gh (fD X k).ring).getD ((dp X).getD k 0).toNat 0=0
 ba:∀ i,i<12→ge X.cf.ww X.cf.wf X.cf.wh ((cu X).health.getD i Ht.zero).marks.length ((cu X).health.getD i Ht.zero).out ((cu X).health.getD i Ht.zero).until_ ((cu X).health.getD i Ht.zero).times (X.now+1) 0
 du:∀ k,k<(eM X).length→GwMay (fU X k).1∧gF (fU X k).1 ((eM X).getD k 0)∧(fU X k).2.length≤1000
 b3:bG (bV X).1.lives (bV X).1.reqs
 dr:∀ k,k<(bV X).1.lives.length→((bV X).1.lives.getD k Lf.zero).state=3→((bV X).1.lives.getD k Lf.zero).until_≤(dV X k).1.now→dL (dV X k).1.tab∧∀ j,j<(dI (dV X k).1.tab ((bV X).1.lives.getD k Lf.zero).backend).length→
  GwMay (mO (dV X k) ((bV X).1.lives.getD k Lf.zero).backend j).1∧gF (mO (dV X k) ((bV X).1.lives.getD k Lf.zero).backend j).1 ((dI (dV X k).1.tab ((bV X).1.lives.getD k Lf.zero).backend).getD j 0)∧(mO (dV X k) ((bV X).1.lives.getD k Lf.zero).backend j).2.length≤1000
theorem zJ (c:Cf) (h:Ht) (now:Int) (h0:ge c.ww c.wf c.wh h.marks.length h.out h.until_ h.times now 0):∃ came,zX c.ww c.wf c.wh h.marks h.out h.until_ h.times now (fI now h).marks (fI now h).out (fI now h).until_ (fI now h).times came 0:=by
 unfold fI;by_cases hc:h.out=true∧h.until_≤now
 ·rw [if_pos hc];exact ⟨true,h0,Or.inr (Or.inl ⟨rfl,hc.1,hc.2,rfl,rfl,rfl,rfl,rfl⟩)⟩
 ·rw [if_neg hc];refine ⟨false,h0,Or.inr (Or.inr ⟨rfl,?_,rfl,rfl,rfl,rfl,rfl⟩)⟩
  cases ho:h.out with
  | false=>exact Or.inl rfl
  | true=>exact Or.inr ⟨rfl,by rw [ho] at hc;simp at hc;exact hc⟩
theorem Ec (X:Wd) {n:Nat} (h:X.health.length=n):gm X n={ X with health:=X.health.map (fI X.now) }:=by
 unfold gm;rw [← h];simp
theorem back_0 (X:Wd):gm X 0=X:=by unfold gm;simp
theorem BU (X:Wd):(dp X).length≤X.lives.length:=by unfold dp lD;rw [I5];exact Il (List.length_filter_le _ _) (List.length_take_le _ _)
theorem vz (X:Wd):(eM X).length≤X.lists.flatten.length:=by unfold eM;rw [I5,(di _).length_eq];exact List.length_filter_le _ _
theorem yV (now:Int) (x:Lf):(Lf.wk now x).backend=x.backend:=by unfold Lf.wk;by_cases h:x.state=1<;>simp [h]
theorem pd (now b:Int):∀ L:List Lf,dD (L.map (Lf.wk now)) b=(dD L b).map (Lf.wk now)
 | []=>rfl
 | a :: L=>by
  rw [List.map_cons,gC,gC,yV,pd now b L];by_cases h:a.backend=b
  ·rw [if_pos h,if_pos h]
   rfl
  ·rw [if_neg h,if_neg h]
theorem wk_may {now:Int} (h0:0≤now) (h1:now≤1099511627776) {x:Lf} (h:eu x):eu (Lf.wk now x):=by
 obtain ⟨a1,a2,a3,a4,a5,a6,a7,a8,a9,a10,hs⟩:=h;unfold Lf.wk;by_cases e:x.state=1
 ·rw [if_pos e];have:x.until_=0∧x.request=0:=by omega
  exact ⟨a1,a2,a3,a4,h0,h1,a7,a8,a9,a10,Or.inr (Or.inl ⟨rfl,this.1,this.2⟩)⟩
 ·rw [if_neg e];exact ⟨a1,a2,a3,a4,a5,a6,a7,a8,a9,a10,hs⟩
theorem E7 {now:Int} (h0:0≤now) (h1:now≤1099511627776) {L:List Lf} {R:List Rq} (h:bG L R):bG (L.map (Lf.wk now)) R:=by
 refine Hf (fun x hx=>?_) ?_ h.2.1 h.2.2.2.1 h.2.2.2.2
 ·obtain ⟨y,hy,rfl⟩:=Io.1 hx;exact wk_may h0 h1 (eP h hy)
 ·rw [List.pairwise_map]
  exact (cO h).imp fun {a b} hab=>by rw [yV,yV];exact hab
theorem stB_wk (now b:Int) (L:List Lf):gU (L.map (Lf.wk now)) b=if gU L b=1 then 2 else gU L b:=by
 unfold gU;exact Q118
def yR (L:List Lf) (ws:List Nat) (y:Int):List Nat:=ws.set y.toNat (oG L y).toNat
theorem sW (L:List Lf):∀ (Y:List Int) (ws:List Nat),(Y.foldl (yR L) ws).length=ws.length
 | [],_=>rfl
 | y :: Y,ws=>by rw [List.foldl_cons,sW L Y];simp [yR]
theorem pn:∀ (Y:List Int) (P:Wd) (ws:List Nat),ws.length=12→P.ring=bO ws→(Y.foldl gp P).ring=bO (Y.foldl (yR P.lives) ws)∧(Y.foldl gp P).lives=P.lives∧(Y.foldl gp P).health.length=P.health.length
 | [],_,_,_,h=>⟨h,rfl,rfl⟩
 | y :: Y,P,ws,hl,h=>by
  rw [List.foldl_cons,List.foldl_cons]
  have h1:(gp P y).ring=bO (yR P.lives ws y):=by
   unfold gp yR;simp only;rw [h,iD hl]
  have h2:=pn Y (gp P y) (yR P.lives ws y) (by simp [yR,hl]) h1;refine ⟨h2.1,h2.2.1,h2.2.2.trans ?_⟩;simp [gp]
theorem oU (L:List Lf) {b:Nat} (hb:b<12):∀ (Y:List Int) (ws:List Nat),ws.length=12→(∀ y∈Y,0≤y)→(Y.foldl (yR L) ws).getD b 0=if (b:Int)∈Y then (oG L b).toNat else ws.getD b 0
 | [],ws,_,_=>by simp
 | y :: Y,ws,hl,h0=>by
  have hy:=h0 y (Ii ..);rw [List.foldl_cons,oU L hb Y _ (by simp [yR,hl]) (fun z hz=>h0 z (Ik _ hz))];by_cases h1:(b:Int)∈Y
  ·rw [if_pos h1,if_pos (Ik _ h1)]
  ·rw [if_neg h1];unfold yR;by_cases h2:(b:Int)=y
   ·subst h2;rw [if_pos (Ii ..),I9,cN (by omega),if_pos rfl]
   ·rw [if_neg (by simp [h1,h2])];by_cases h3:y.toNat<ws.length
    ·rw [cN h3,if_neg (by omega)]
    ·rw [List.set_eq_of_length_le (by omega)]
theorem yS (X:Wd):dp X=(X.lives.filter fun x=>decide (x.state=1)).map Lf.backend:=by unfold dp lD;rw [Ia (Hz _)]
theorem mc {X:Wd} (h:bG X.lives X.reqs) {b:Int}:b∈dp X↔gU X.lives b=1:=by
 rw [yS];constructor
 ·intro hb;obtain ⟨x,hx,rfl⟩:=Io.1 hb;obtain ⟨hx,h1⟩:=List.mem_filter.1 hx;rw [pG (cO h) hx];simpa using h1
 ·intro hb;obtain ⟨x,hx,e,h1⟩:=mg hb (by decide);exact Io.2 ⟨x,List.mem_filter.2 ⟨hx,by simpa using h1⟩,e⟩
theorem sY {X:Wd} (h:bG X.lives X.reqs) {b:Int} (hb:b∈dp X):0≤b∧b≤11:=by
 obtain ⟨x,hx,rfl,_⟩:=mg ((mc h).1 hb) (by decide);have:=eP h hx;exact ⟨this.1,this.2.1⟩
theorem EF (now b:Int) (L:List Lf):oG (L.map (Lf.wk now)) b=oG L b:=by
 unfold oG;exact Q118
theorem FF {X:Wd} (h:bG X.lives X.reqs) (now:Int):(dp X).foldl (yR (X.lives.map (Lf.wk now))) (dK X.lives)=dK (X.lives.map (Lf.wk now)):=by
 have h12:((dp X).foldl (yR (X.lives.map (Lf.wk now))) (dK X.lives)).length=12:=by rw [sW,cB]
 refine List.ext_getElem (by rw [h12,cB]) fun b h1 h2=>?_;have hb:b<12:=by omega
 rw [← aO h1 0,← aO h2 0,oU _ hb _ _ (cB _) (fun y hy=>(sY h hy).1),ff _ hb,ff _ hb,pd,EF];by_cases hw:(b:Int)∈dp X
 ·rw [if_pos hw];have hs:=(mc h).1 hw;unfold gU at hs;unfold oG
  cases hl:dD X.lives (b:Nat) with
  | none=>rw [hl] at hs;simp at hs
  | some x=>
   exact Q155
 ·rw [if_neg hw];have hs:gU X.lives b≠1:=fun g=>hw ((mc h).2 g);unfold gU at hs
  cases hl:dD X.lives (b:Nat) with
  | none=>rfl
  | some x=>
   exact Q155
theorem xD {X:Wd} (h:GwMay X):(cu X).ring=bO (dK (cu X).lives):=by
 have h1:=pn (dp X) (bM X) (dK X.lives) (cB _) h.rg;unfold cu;rw [h1.1,h1.2.1]
 congr 1
 exact FF h.bk _
theorem fT (now:Int) (A B:List Fl):ed now (A++B)=ed now A++ed now B:=by simp [ed]
theorem te {now s:Int} {A:List Fl} (h:∀ g∈A,g.slot≠s):(ed now A).filter (fun t=>!(t.id == s))=ed now A:=by
 refine List.filter_eq_self.2 fun t ht=>?_;obtain ⟨g,hg,rfl⟩:=Io.1 ht;have:=h g (List.mem_filter.1 hg).1;simpa [n7] using this
theorem EW {now:Int} {f:Fl}:(ed now [f]).filter (fun t=>!(t.id == f.slot))=[]:=by
 refine List.filter_eq_nil_iff.2 fun t ht=>?_;obtain ⟨g,hg,rfl⟩:=Io.1 ht;have:=(List.mem_filter.1 hg).1;simp at this;subst this;simp [n7]
structure Around (F:List Fl) (i:Nat) (A:List Fl) (f:Fl) (B:List Fl):Prop where
 eq:F=A++f :: B
 len:A.length=i
 ne:∀ g∈A++B,g.slot≠f.slot
 so:(A++B).Pairwise fun a b=>a.slot<b.slot
theorem qS {F:List Fl} (hs:F.Pairwise fun a b=>a.slot<b.slot) {i:Nat} (hi:i<F.length):Around F i (F.take i) (F.getD i Fl.zero) (F.drop (i+1)):=by
 have e:F=F.take i++F.getD i Fl.zero :: F.drop (i+1):=by
  conv=>lhs;rw [← Ij i F]
  rw [aO hi,List.getElem_cons_drop]
 refine ⟨e,by rw [Ie];omega,fun g hg=>?_,?_⟩
 ·rw [e,List.pairwise_append,List.pairwise_cons] at hs;rcases List.mem_append.1 hg with hg|hg
  ·have:=hs.2.2 g hg _ (Ii ..);omega
  ·have:=hs.2.1.1 g hg;omega
 ·rw [e] at hs;refine hs.sublist ?_;exact List.Sublist.append (List.Sublist.refl _) (List.sublist_cons_self _ _)
theorem Around.mem {F A B:List Fl} {i:Nat} {f g:Fl} (h:Around F i A f B):g∈F↔g=f∨g∈A++B:=by
 rw [h.eq];simp only [List.mem_append,List.mem_cons];constructor
 ·exact Q160
 ·exact Q160
theorem zH {X:Wd} (h:GwMay X) {i:Nat} {A B:List Fl} {f:Fl} (ha:Around X.flows i A f B):(X.lists.flatten.filter fun t=>!(t.id == f.slot)).Perm (ed X.now (A++B)):=by
 refine (h.whp.filter _).trans ?_
 have e:X.flows=A++([f]++B):=by rw [ha.eq];rfl
 rw [e,fT,fT,fT,List.filter_append,List.filter_append,te (fun g hg=>ha.ne g (List.mem_append_left _ hg)),te (fun g hg=>ha.ne g (List.mem_append_right _ hg)),EW];exact List.Perm.refl _
theorem DP {X:Wd} (h:GwMay X) {i:Nat} (hi:i<X.flows.length):GwBut (jn X i (eJ X.tab (X.flows.getD i Fl.zero))) (X.flows.getD i Fl.zero).backend:=by
 have ha:=qS h.so hi;generalize hA:X.flows.take i=A at ha;generalize hB:X.flows.drop (i+1)=B at ha;generalize hf:X.flows.getD i Fl.zero=f at ha;have hfm:f∈X.flows:=ha.mem.2 (Or.inl rfl);have hff:=h.fl f hfm;have hs0:=hff.s0;have hs1:=hff.s1
 have hd:jn X i (eJ X.tab f)={ X with flows:=A++B,tab:=eJ X.tab f,lists:=Bz X.now X.lists f.slot }:=by unfold jn;rw [hA,hB,hf]
 rw [hd];have hti:f.slot.toNat<X.tab.length:=by omega
 refine { cf:=h.cf,n0:=h.n0,n1:=h.n1,tb:=h.tabd hfm,tl:=?_,bk:=h.bk,hl:=h.hl,ht:=h.ht,ho:=h.ho,t0:=h.t0,t1:=h.t1,rg:=h.rg,wn:=h.wn,wl:=?_,so:=ha.so,fl:=fun g hg=>?_,us:=?_,dr:=?_,si:=h.si }
 ·simp only [eJ,Ic];exact h.tl
 ·simp only [Bz];exact fF (zH h ha)
 ·have h1:=h.fl g (ha.mem.2 (Or.inr hg));have hne:=ha.ne g hg;have g0:=h1.s0;refine ⟨h1.s0,by simp only [eJ,Ic];exact h1.s1,?_,h1.r0,h1.r1,h1.st,h1.d0,h1.d1⟩;simp only [eJ];rw [cN hti,if_neg (by omega)];exact h1.sl
 ·intro s hs hu;simp only [eJ,Ic] at hs hu;rw [cN hti] at hu;by_cases e:f.slot.toNat=s
  ·rw [if_pos e] at hu
   cases hu
  ·rw [if_neg e] at hu;obtain ⟨g,hg,hgs⟩:=h.us s hs hu;rcases ha.mem.1 hg with rfl|hg
   ·omega
   ·exact ⟨g,hg,hgs⟩
 ·intro x hx h3 hne;obtain ⟨g,hg,hgb⟩:=h.dr x hx h3;rcases ha.mem.1 hg with rfl|hg
  ·exact absurd hgb.symm hne
  ·exact ⟨g,hg,hgb⟩
theorem mL {X:Wd} (h:GwMay X) {i:Nat} (hi:i<X.flows.length) (k y:Int):GwMay (gO X i k y).1:=lI (DP h hi)
theorem Around.set {F A B:List Fl} {i:Nat} {f:Fl} (h:Around F i A f B) (g:Fl):F.set i g=A++g :: B:=by
 rw [h.eq,List.set_append_right i g (by rw [h.len];exact Hz _),h.len,Nat.sub_self,List.set_cons_zero]
theorem Around.so' {F A B:List Fl} {i:Nat} {f g:Fl} (h:Around F i A f B) (hF:F.Pairwise fun a b=>a.slot<b.slot) (hs:g.slot=f.slot):(A++g :: B).Pairwise fun a b=>a.slot<b.slot:=by
 have e:(A++g :: B).map Fl.slot=F.map Fl.slot:=by rw [h.eq];simp [hs]
 have h1:(F.map Fl.slot).Pairwise (fun a b=>a<b):=List.pairwise_map.2 hF;rw [← e] at h1;exact List.pairwise_map.1 h1
theorem yZ {now:Int} {g:Fl} (h:now<g.due):ed now [g]=[n7 g]:=by simp [ed,h]
theorem Gd {X:Wd} (h:GwMay X) {i:Nat} {A B:List Fl} {f g:Fl} (ha:Around X.flows i A f B) {span:Int} (hs:g.slot=f.slot) (hd:g.due=X.now+span) (h1:1≤span):jD X.now X.lists f.slot span=bK X.now (ed X.now (A++g :: B)):=by
 unfold jD;refine fF ?_;have e:A++g :: B=A++([g]++B):=rfl;rw [e,fT,fT,yZ (by omega),show n7 g=⟨X.now+span,f.slot⟩ by unfold n7;rw [hs,hd]];refine ((zH h ha).append_right _).trans ?_;rw [fT,List.append_assoc];exact (List.perm_append_comm).append_left _
structure zR (X:Wd) (f g:Fl) (span:Int):Prop where
 sl:g.slot=f.slot
 gn:g.gen=f.gen
 ky:g.key=f.key
 du:g.due=X.now+span
 s1:1≤span
 s2:span≤500
 r0:0≤g.retries
 r1:g.retries≤X.cf.retries
 st:gU X.lives g.backend=2∨gU X.lives g.backend=3
def sO (X:Wd) (i:Nat) (g:Fl) (span tok:Int):Wd:={ X with tok:=tok,tab:=X.tab.set g.slot.toNat ⟨g.gen,true,g.key,g.backend⟩,flows:=X.flows.set i g,lists:=jD X.now X.lists g.slot span }
theorem Ce {L:List Lf} {R:List Rq} (h:bG L R) {b:Int} (hs:gU L b=2∨gU L b=3):0≤b∧b≤11:=by
 have:∃ x∈L,x.backend=b:=by
  rcases hs with hs|hs
  ·obtain ⟨x,hx,e,_⟩:=mg hs (by decide);exact ⟨x,hx,e⟩
  ·obtain ⟨x,hx,e,_⟩:=mg hs (by decide);exact ⟨x,hx,e⟩
 obtain ⟨x,hx,rfl⟩:=this;have:=eP h hx;exact ⟨this.1,this.2.1⟩
theorem wY {X:Wd} (h:GwMay X) {i:Nat} (hi:i<X.flows.length) {g:Fl} {span tok:Int} (hg:zR X (X.flows.getD i Fl.zero) g span) (h0:0≤tok) (h1:tok≤X.cf.bb*X.cf.bd):GwBut (sO X i g span tok) (X.flows.getD i Fl.zero).backend:=by
 have ha:=qS h.so hi;generalize hA:X.flows.take i=A at ha;generalize hB:X.flows.drop (i+1)=B at ha;generalize hf:X.flows.getD i Fl.zero=f at ha hg ⊢;have hfm:f∈X.flows:=ha.mem.2 (Or.inl rfl);have hff:=h.fl f hfm;obtain ⟨q,q1,q2,q3,q4,q5,q6,q7,q8,q9⟩:=h.num hfm;have hs0:=hff.s0;have hs1:=hff.s1
 have hti:g.slot.toNat<X.tab.length:=by rw [hg.sl];omega
 have hbb:=Ce h.bk hg.st;have hset:=ha.set g;unfold sO;rw [hset];refine { cf:=h.cf,n0:=h.n0,n1:=h.n1,tb:=?_,tl:=?_,bk:=h.bk,hl:=h.hl,ht:=h.ht,ho:=h.ho,t0:=h0,t1:=h1,rg:=h.rg,wn:=h.wn,wl:=?_,so:=ha.so' h.so hg.sl,fl:=fun k hk=>?_,us:=?_,dr:=?_,si:=h.si }
 ·refine oV h.tb _ ?_;unfold dv;simp only [if_true,hg.gn,hg.ky];omega
 ·simp only [Ic];exact h.tl
 ·simp only;rw [hg.sl];exact Gd h ha hg.sl hg.du hg.s1
 ·simp only at hk
  have hk':k=g∨k∈A++B:=by
   simp only [List.mem_append,List.mem_cons] at hk ⊢;rcases hk with hk|hk|hk
   ·exact Or.inr (Or.inl hk)
   ·exact Or.inl hk
   ·exact Or.inr (Or.inr hk)
  rcases hk' with rfl|hk'
  ·refine ⟨by rw [hg.sl];exact hs0,by simp only [Ic];rw [hg.sl];exact hs1,?_,hg.r0,hg.r1,hg.st,?_,?_⟩
   ·simp only;rw [cN hti,if_pos rfl]
   ·have:=hg.du;have:=hg.s1;simp only;omega
   ·have:=hg.du;have:=hg.s2;simp only;omega
  ·have h2:=h.fl k (ha.mem.2 (Or.inr hk'));have hne:=ha.ne k hk';have g0:=h2.s0;refine ⟨h2.s0,by simp only [Ic];exact h2.s1,?_,h2.r0,h2.r1,h2.st,h2.d0,h2.d1⟩;simp only;rw [cN hti,if_neg (by rw [hg.sl];omega)];exact h2.sl
 ·intro s hs hu;simp only [Ic] at hs hu;rw [cN hti] at hu;by_cases e:g.slot.toNat=s
  ·exact ⟨g,by simp,by rw [hg.sl] at e ⊢;omega⟩
  ·rw [if_neg e] at hu;obtain ⟨k,hk,hks⟩:=h.us s hs hu;rcases ha.mem.1 hk with rfl|hk
   ·rw [hg.sl] at e;omega
   ·refine ⟨k,?_,hks⟩;exact Q130
 ·intro x hx h3 hne;obtain ⟨k,hk,hkb⟩:=h.dr x hx h3;rcases ha.mem.1 hk with rfl|hk
  ·exact absurd hkb.symm hne
  ·refine ⟨k,?_,hkb⟩;exact Q130
theorem sN {X:Wd} (h:GwMay X) {i:Nat} (hi:i<X.flows.length) {g:Fl} {span tok:Int} (hg:zR X (X.flows.getD i Fl.zero) g span) (h0:0≤tok) (h1:tok≤X.cf.bb*X.cf.bd) (hb:g.backend=(X.flows.getD i Fl.zero).backend):GwMay (sO X i g span tok):=
 (wY h hi hg h0 h1).all fun x _ _ e=>⟨g,by
  unfold sO;simp only;rw [List.mem_iff_getElem]
  exact ⟨i,by simpa using hi,by simp⟩,by rw [hb,e]⟩
theorem GwMay.at_ {X:Wd} (_:GwMay X) {i:Nat} (hi:i<X.flows.length):X.flows.getD i Fl.zero∈X.flows:=by rw [aO hi];exact Ib hi
theorem wI {X:Wd} (h:GwMay X) {i:Nat} (hi:i<X.flows.length) (why:Int):GwMay (eU X i why).1:=by
 have hfm:=h.at_ hi;obtain ⟨q,q1,q2,q3,q4,q5,q6,q7,q8,q9⟩:=h.num hfm;have hff:=h.fl _ hfm;have hN:=h.noted (b:=(X.flows.getD i Fl.zero).backend.toNat) (by omega) true
 have hbd:1≤X.cf.bd:=by have:=h.cf.2.1;unfold i7 at this;omega
 have ht1:=h.t1;unfold eU;simp only;by_cases hc:(X.flows.getD i Fl.zero).retries=X.cf.retries∨X.tok<X.cf.bd
 ·rw [if_pos hc];exact mL hN hi _ _
 ·rw [if_neg hc];by_cases hp:(dA (bU X (X.flows.getD i Fl.zero).backend.toNat true) (X.flows.getD i Fl.zero).key.toNat (X.flows.getD i Fl.zero).slot).2≠0
  ·rw [if_pos hp];exact mL hN hi _ _
  ·rw [if_neg hp];obtain ⟨x,hx,hx2,hxb⟩:=tJ hN (hN.butF (f:=X.flows.getD i Fl.zero) hfm) (Decidable.not_not.1 hp);generalize (dA (bU X (X.flows.getD i Fl.zero).backend.toNat true) (X.flows.getD i Fl.zero).key.toNat (X.flows.getD i Fl.zero).slot).1=b at hxb ⊢;have hr0:=hff.r0;have hr1:=hff.r1;have hcn:=h.cf.1.1;have hst:=pG (cO hN.bk) hx;rw [hxb,hx2] at hst
   have hg:zR (bU X (X.flows.getD i Fl.zero).backend.toNat true) ((bU X (X.flows.getD i Fl.zero).backend.toNat true).flows.getD i Fl.zero) { X.flows.getD i Fl.zero with backend:=b,retries:=(X.flows.getD i Fl.zero).retries+1,due:=X.now+X.cf.connect } X.cf.connect:=
    ⟨rfl,rfl,rfl,rfl,by omega,by omega,by simp only;omega,by simp only [bU];omega,Or.inl hst⟩
   have h0:0≤X.tok - X.cf.bd:=by omega
   have h1:X.tok - X.cf.bd≤X.cf.bb*X.cf.bd:=by omega
   by_cases e:(X.flows.getD i Fl.zero).backend=b
   ·rw [if_pos e];exact sN hN hi hg h0 h1 e.symm
   ·rw [if_neg e];exact lI (wY hN hi hg h0 h1)
theorem rQ {α:Type} {L:List α} {i:Nat} (h:i<L.length) {d x:α} (hx:L.getD i d=x):L.set i x=L:=by
 rw [aO h] at hx;subst hx;exact List.set_getElem_self h
theorem vV {X:Wd} (h:GwMay X) {i:Nat} (hi:i<X.flows.length):GwMay (mB X i):=by
 have hfm:=h.at_ hi;have hff:=h.fl _ hfm;have h0:=hff.s0;have h1:=hff.s1;have hcn:=h.cf.1.1;have hr0:=hff.r0;have hr1:=hff.r1;have hg:zR X (X.flows.getD i Fl.zero) { X.flows.getD i Fl.zero with due:=X.now+X.cf.idle } X.cf.idle:=⟨rfl,rfl,rfl,rfl,by omega,by omega,hr0,hr1,hff.st⟩;have hM:=sN h hi hg h.t0 h.t1 rfl
 have e:sO X i { X.flows.getD i Fl.zero with due:=X.now+X.cf.idle } X.cf.idle X.tok=mB X i:=by
  unfold sO mB;simp only;rw [rQ (d:=Sl.zero) (by omega) hff.sl]
 rw [← e];exact hM
theorem pM {X:Wd} (h:GwMay X) {i:Nat} (hi:i<X.flows.length):GwMay (iT X i):=by
 have ha:=qS h.so hi;unfold iT;generalize hA:X.flows.take i=A at ha;generalize hB:X.flows.drop (i+1)=B at ha;generalize hf:X.flows.getD i Fl.zero=f at ha ⊢;have hfm:f∈X.flows:=ha.mem.2 (Or.inl rfl);have hff:=h.fl f hfm;have hset:=ha.set { f with serving:=true }
 have hmem:∀ k,k∈A++{ f with serving:=true } :: B↔k={ f with serving:=true }∨k∈A++B:=by
  intro k;exact Q76
 rw [hset];refine { cf:=h.cf,n0:=h.n0,n1:=h.n1,tb:=h.tb,tl:=h.tl,bk:=h.bk,hl:=h.hl,ht:=h.ht,ho:=h.ho,t0:=h.t0,t1:=h.t1,rg:=h.rg,wn:=h.wn,wl:=?_,so:=ha.so' h.so rfl,fl:=fun k hk=>?_,us:=?_,dr:=?_,si:=h.si }
 ·simp only;rw [h.wl,ha.eq]
  have e:ed X.now (A++{ f with serving:=true } :: B)=ed X.now (A++f :: B):=by
   rw [show A++{ f with serving:=true } :: B=A++([{ f with serving:=true }]++B) from rfl,show A++f :: B=A++([f]++B) from rfl,fT,fT,fT,fT]
   congr 2
   unfold ed;by_cases hd:X.now<f.due
   ·simp [hd,n7]
   ·simp [hd]
  rw [e]
 ·have hk':k={ f with serving:=true }∨k∈A++B:=(hmem k).1 hk;rcases hk' with rfl|hk'
  ·exact ⟨hff.s0,hff.s1,hff.sl,hff.r0,hff.r1,hff.st,hff.d0,hff.d1⟩
  ·have h2:=h.fl k (ha.mem.2 (Or.inr hk'));exact ⟨h2.s0,h2.s1,h2.sl,h2.r0,h2.r1,h2.st,h2.d0,h2.d1⟩
 ·intro s hs hu;obtain ⟨k,hk,hks⟩:=h.us s hs hu;rcases ha.mem.1 hk with rfl|hk
  ·exact ⟨_,(hmem _).2 (Or.inl rfl),hks⟩
  ·exact ⟨k,(hmem _).2 (Or.inr hk),hks⟩
 ·intro x hx h3;obtain ⟨k,hk,hkb⟩:=h.dr x hx h3;rcases ha.mem.1 hk with rfl|hk
  ·exact ⟨_,(hmem _).2 (Or.inl rfl),hkb⟩
  ·exact ⟨k,(hmem _).2 (Or.inr hk),hkb⟩
theorem DJ {X:Wd} (h:GwMay X) (e:Ev):GwMay (fj X e).1:=by
 unfold fj;by_cases hc:tZ X.tab e.slot e.gen≠0
 ·rw [if_pos hc];exact h
 ·rw [if_neg hc];obtain ⟨_,hi,_,_⟩:=yy h (Decidable.not_not.1 hc);by_cases h3:e.kind=3
  ·rw [if_pos h3];exact mL h hi _ _
  ·rw [if_neg h3];by_cases h2:e.kind=2
   ·rw [if_pos h2];simp only;by_cases hs:(X.flows.getD (eY X e.slot) Fl.zero).serving=true
    ·rw [if_pos hs];exact vV h hi
    ·rw [if_neg hs];exact h
   ·rw [if_neg h2];by_cases hs:(X.flows.getD (eY X e.slot) Fl.zero).serving=true
    ·rw [if_pos hs];exact h
    ·rw [if_neg hs];by_cases hg:e.good=true
     ·rw [if_pos hg];have hfm:=h.at_ hi;obtain ⟨q,q1,q2,q3,q4,q5,q6,q7,q8,q9⟩:=h.num hfm;have hs':=pM h hi;have hN:=hs'.noted (b:=(X.flows.getD (eY X e.slot) Fl.zero).backend.toNat) (by omega) false;exact vV hN (by simpa [bU,iT] using hi)
     ·rw [if_neg hg];exact wI h hi _
theorem DO {P:Wd×List Out} (h:GwMay P.1) {slot:Int} (hf:gF P.1 slot):GwMay (lX P slot).1:=by
 unfold lX;by_cases hs:(P.1.flows.getD (eY P.1 slot) Fl.zero).serving=true
 ·rw [if_pos hs];exact mL h hf.2 6 1
 ·rw [if_neg hs];exact wI h hf.2 _
theorem DT {P:Wd×List Out} (h:GwMay P.1) {slot:Int} (hf:gF P.1 slot):GwMay (oO P slot).1:=mL h hf.2 6 2
theorem mF {X:Wd} (_:GwMay X) {slot:Int} (hf:∃ f∈X.flows,f.slot=slot):gF X slot:=by
 obtain ⟨f,hf,hs⟩:=hf;rcases bJ (mI slot) X.flows Fl.zero with ⟨_,hn⟩|⟨i,hi,he,_⟩
 ·have:=hn f hf;simp [mI,hs] at this
 ·have ha:eY X slot=i:=by unfold eY;rw [he];simp
  unfold gF;rw [ha];exact ⟨he,hi⟩
structure WdMay (X:Wd):Prop where
 gw:GwMay X
 du:∀ f∈X.flows,X.now<f.due
 un:∀ x∈X.lives,x.state=3→X.now<x.until_
theorem uF:∀ (Y:List Int) (P:Wd),Y.foldl gp P={ P with ring:=(Y.foldl gp P).ring,health:=(Y.foldl gp P).health }
 | [],_=>rfl
 | y :: Y,P=>by rw [List.foldl_cons,uF Y (gp P y)];rfl
theorem pq (i:Nat):∀ (Y:List Int) (P:Wd),(Y.foldl gp P).health.getD i Ht.zero=P.health.getD i Ht.zero∨(Y.foldl gp P).health.getD i Ht.zero=Ht.zero
 | [],_=>Or.inl rfl
 | y :: Y,P=>by
  rw [List.foldl_cons];rcases pq i Y (gp P y) with e|e
  ·rw [e];unfold gp;simp only;by_cases hy:y.toNat<P.health.length
   ·rw [cN hy];by_cases e2:y.toNat=i
    ·rw [if_pos e2];exact Or.inr rfl
    ·rw [if_neg e2];exact Or.inl rfl
   ·rw [List.set_eq_of_length_le (by omega)];exact Or.inl rfl
  ·exact Or.inr e
theorem lG (X:Wd):cu X={ bM X with ring:=(cu X).ring,health:=(cu X).health }:=uF _ _
theorem uE:∀ (Y:List Int) (P:Wd),(Y.foldl gp P).health.length=P.health.length
 | [],_=>rfl
 | y :: Y,P=>by rw [List.foldl_cons,uE Y (gp P y)];simp [gp]
theorem uM (X:Wd):(cu X).health.length=X.health.length:=uE _ _
theorem Dz {c:Cf} {h:Ht} {now:Int} (hw:gZ c.ww c.wf c.wh) (h0:0≤now) (h1:now≤1099511627776) (hk:rK c.ww h.marks.length h.out h.until_ h.times):ge c.ww c.wf c.wh h.marks.length h.out h.until_ h.times now 0:=Or.inr (Or.inr (Or.inr ⟨hw,h0,h1,hk,rfl⟩))
theorem zB {a:Int} (h:0≤a):rK a Ht.zero.marks.length Ht.zero.out Ht.zero.until_ Ht.zero.times:=⟨h,by decide,by decide,by decide,by decide,fun _=>rfl⟩
theorem pD {X:Wd} (h:GwMay X) {i:Nat} (hi:i<12):rK X.cf.ww ((cu X).health.getD i Ht.zero).marks.length ((cu X).health.getD i Ht.zero).out ((cu X).health.getD i Ht.zero).until_ ((cu X).health.getD i Ht.zero).times:=by
 obtain ⟨h1,h2,h3,h4⟩:=fC (h.ht i hi);rcases pq i (dp X) (bM X) with e|e
 ·unfold cu;rw [e];exact h4
 ·unfold cu;rw [e];exact zB (by have:=h1.1;omega)
theorem F2 {X:Wd} (h:GwMay X) (hn:X.now<1099511626776) {i:Nat} (hi:i<12):ge X.cf.ww X.cf.wf X.cf.wh ((cu X).health.getD i Ht.zero).marks.length ((cu X).health.getD i Ht.zero).out ((cu X).health.getD i Ht.zero).until_ ((cu X).health.getD i Ht.zero).times (X.now+1) 0:=
 Dz h.cf.2.2 (by have:=h.n0;omega) (by omega) (pD h hi)
theorem wU {a now:Int} {h:Ht} (hk:rK a h.marks.length h.out h.until_ h.times):rK a (fI now h).marks.length (fI now h).out (fI now h).until_ (fI now h).times∧((fI now h).out=true→now<(fI now h).until_):=by
 obtain ⟨a1,a2,a3,a4,a5,a6⟩:=hk;unfold fI;by_cases hc:h.out=true∧h.until_≤now
 ·rw [if_pos hc];exact ⟨⟨a1,a2,a3,Int.le_refl 0,(by decide:(0:Int)≤1099511628276),fun _=>rfl⟩,by simp⟩
 ·rw [if_neg hc];exact ⟨⟨a1,a2,a3,a4,a5,a6⟩,fun ho=>by rw [ho] at hc;simp at hc;exact hc⟩
theorem kv {α β:Type} (f:α→β) {L:List α} {i:Nat} (h:i<L.length) (d:α) (e:β):(L.map f).getD i e=f (L.getD i d):=by
 rw [aO (by simpa using h),aO h,List.getElem_map]
theorem C9 {X:Wd} (h:GwMay X):(X.lists.flatten.filter fun t=>decide (X.now+1<t.at_)).Perm (ed (X.now+1) X.flows):=by
 refine (h.whp.filter _).trans ?_;unfold ed;rw [List.filter_map,List.filter_filter];refine List.Perm.of_eq (congrArg _ (List.filter_congr fun f _=>?_));simp only [Function.comp,n7];by_cases h1:X.now+1<f.due
 ·simp [h1];omega
 ·simp [h1]
theorem Ag {X:Wd} (h:WdMay X) (hn:X.now<1099511626776):GwMay (iS X):=by
 have g:=h.gw;have n0:=g.n0
 have hl1:(cu X).health.length=12:=by rw [uM];exact g.hl
 have hf:=lG X
 have hlv:(cu X).lives=X.lives.map (Lf.wk (X.now+1)):=by rw [hf];rfl
 have hrg:=xD g;rw [hlv] at hrg
 have e:iS X={ bM X with ring:=(cu X).ring,health:=(cu X).health.map (fI (X.now+1)) }:=by
  unfold iS
  have hnow:(cu X).now=X.now+1:=by rw [hf];rfl
  rw [hnow]
  conv=>lhs;rw [hf]
 rw [e]
 have hst:∀ {b:Int},gU X.lives b=2∨gU X.lives b=3→gU (X.lives.map (Lf.wk (X.now+1))) b=2∨gU (X.lives.map (Lf.wk (X.now+1))) b=3:=by
  intro b hb;rw [stB_wk,if_neg (by omega)];exact hb
 refine { cf:=g.cf,n0:=by simp only [bM];omega,n1:=by simp only [bM];omega,tb:=g.tb,tl:=g.tl,bk:=E7 (by omega) (by omega) g.bk,hl:=by simpa using hl1,ht:=?_,ho:=?_,t0:=g.t0,t1:=g.t1,rg:=hrg,wn:=rfl,wl:=fF (C9 g),so:=g.so,fl:=fun f hfm=>?_,us:=g.us,dr:=?_,si:=?_ }
 ·intro i hi;simp only;rw [kv _ (by omega) Ht.zero];exact Dz g.cf.2.2 (by simp only [bM];omega) (by simp only [bM];omega) (wU (pD g hi)).1
 ·intro i hi;simp only;rw [kv _ (by omega) Ht.zero];exact (wU (pD g hi)).2
 ·have h2:=g.fl f hfm;have h3:=h.du f hfm;have d1:=h2.d1;exact ⟨h2.s0,h2.s1,h2.sl,h2.r0,h2.r1,hst h2.st,by simp only [bM];omega,by simp only [bM];omega⟩
 ·intro x hx h3;obtain ⟨y,hy,rfl⟩:=Io.1 (show x∈X.lives.map (Lf.wk (X.now+1)) from hx)
  have hy3:y.state=3:=by
   unfold Lf.wk at h3;by_cases e1:y.state=1
   ·rw [if_pos e1] at h3;exact absurd h3 (by simp)
   ·rw [if_neg e1] at h3;exact h3
  obtain ⟨f,hfm,hfb⟩:=g.dr y hy hy3;exact ⟨f,hfm,by rw [yV];exact hfb⟩
 ·intro x hx;obtain ⟨y,hy,rfl⟩:=Io.1 (show x∈X.lives.map (Lf.wk (X.now+1)) from hx);have:=g.si y hy;unfold Lf.wk;simp only [bM];by_cases e1:y.state=1
  ·rw [if_pos e1];simp
  ·rw [if_neg e1];omega
theorem DK {L:List Lf} {b:Int} {x:Lf} (h:x∈jX L b):x∈L∨x.state=4:=by
 unfold jX at h
 cases e:L.findIdx? (cE b) with
 | none=>rw [e] at h;exact Or.inl h
 | some i=>
  rw [e] at h;rcases List.mem_or_eq_of_mem_set h with h|rfl
  ·exact Or.inl h
  ·exact Or.inr rfl
theorem ju (X:Wd) (b:Int):∃ L,(bZ X b).1={ X with lives:=L }∧(∀ x∈L,x.state=3→x∈X.lives)∧(bZ X b).2.length≤1:=by
 unfold bZ
 cases dD X.lives b with
 | none=>exact ⟨X.lives,rfl,fun _ h _=>h,by simp⟩
 | some x=>
  simp only;by_cases hc:x.state=3∧iV X.tab b X.tab.length=[]
  ·rw [if_pos hc];refine ⟨jX X.lives b,rfl,fun y hy h3=>?_,by simp⟩;rcases DK hy with h|h
   ·exact h
   ·omega
  ·rw [if_neg hc];exact ⟨X.lives,rfl,fun _ h _=>h,by simp⟩
structure StepS (P Q:Wd×List Out) (s:Int):Prop where
 now:Q.1.now=P.1.now
 fl:∀ f∈Q.1.flows,(f∈P.1.flows∧f.slot≠s)∨P.1.now<f.due
 ke:∀ f∈P.1.flows,f.slot≠s→f∈Q.1.flows
 lv:∀ x∈Q.1.lives,x.state=3→x∈P.1.lives
 ou:Q.2.length≤P.2.length+2
structure CutAns (P Q:Wd×List Out) (s:Int):Prop where
 now:Q.1.now=P.1.now
 fl:∀ f,f∈Q.1.flows↔f∈P.1.flows∧f.slot≠s
 lv:∀ x∈Q.1.lives,x.state=3→x∈P.1.lives
 ou:Q.2.length≤P.2.length+2
 ln:Q.1.flows.length+1=P.1.flows.length
theorem CutAns.step {P Q:Wd×List Out} {s:Int} (h:CutAns P Q s):StepS P Q s:=⟨h.now,fun f hf=>Or.inl ((h.fl f).1 hf),fun f hf hs=>(h.fl f).2 ⟨hf,hs⟩,h.lv,h.ou⟩
theorem qG {X:Wd} {s:Int} (h:gF X s):(X.flows.getD (eY X s) Fl.zero).slot=s:=by
 rcases bJ (mI s) X.flows Fl.zero with ⟨e,_⟩|⟨i,hi,e,hp,_⟩
 ·have:=h.1;omega
 ·have:=h.1;have:eY X s=i:=by omega
  rw [this];simpa [mI] using hp
theorem mK {X:Wd} (h:GwMay X) {s:Int} (hf:gF X s) (O:List Out) (k y:Int):CutAns (X,O) ((gO X (eY X s) k y).1,O++(gO X (eY X s) k y).2) s:=by
 have ha:=qS h.so hf.2;have hs:=qG hf
 have hm:∀ g,g∈X.flows.take (eY X s)++X.flows.drop (eY X s+1)↔g∈X.flows∧g.slot≠s:=by
  intro g;constructor
  ·intro hg;have:=ha.ne g hg;rw [hs] at this;exact ⟨ha.mem.2 (Or.inr hg),this⟩
  ·rintro ⟨hg,hne⟩;rcases ha.mem.1 hg with rfl|hg
   ·exact absurd hs hne
   ·exact hg
 unfold gO;obtain ⟨L,e,hL,ho⟩:=ju (jn X (eY X s) (eJ X.tab (X.flows.getD (eY X s) Fl.zero))) (X.flows.getD (eY X s) Fl.zero).backend;refine ⟨?_,fun f=>?_,?_,?_,?_⟩
 ·simp only;rw [e]
  rfl
 ·simp only;rw [e];exact hm f
 ·simp only;rw [e];exact hL
 ·simp only [I8,List.length_cons];omega
 ·simp only;rw [e];simp only [jn,I8,Ie,List.length_drop];have:=hf.2;omega
theorem sG {X:Wd} (h:GwMay X) {s:Int} (hf:gF X s) (O:List Out) (why:Int):StepS (X,O) ((eU X (eY X s) why).1,O++(eU X (eY X s) why).2) s:=by
 have ha:=qS h.so hf.2;have hs:=qG hf;have hfm:=h.at_ hf.2;obtain ⟨q,q1,q2,q3,q4,q5,q6,q7,q8,q9⟩:=h.num hfm;have hN:=h.noted (b:=(X.flows.getD (eY X s) Fl.zero).backend.toNat) (by omega) true;have hfN:gF (bU X (X.flows.getD (eY X s) Fl.zero).backend.toNat true) s:=hf
 have hE:∀ k y,StepS (X,O) ((gO (bU X (X.flows.getD (eY X s) Fl.zero).backend.toNat true) (eY X s) k y).1,O++(gO (bU X (X.flows.getD (eY X s) Fl.zero).backend.toNat true) (eY X s) k y).2) s:=by
  intro k y;have h1:=(mK hN hfN O k y).step;exact ⟨h1.now,h1.fl,h1.ke,h1.lv,h1.ou⟩
 have hcn:=h.cf.1.1;unfold eU;simp only;by_cases hc:(X.flows.getD (eY X s) Fl.zero).retries=X.cf.retries∨X.tok<X.cf.bd
 ·rw [if_pos hc];exact hE _ _
 ·rw [if_neg hc];by_cases hp:(dA (bU X (X.flows.getD (eY X s) Fl.zero).backend.toNat true) (X.flows.getD (eY X s) Fl.zero).key.toNat (X.flows.getD (eY X s) Fl.zero).slot).2≠0
  ·rw [if_pos hp];exact hE _ _
  ·rw [if_neg hp];generalize (dA (bU X (X.flows.getD (eY X s) Fl.zero).backend.toNat true) (X.flows.getD (eY X s) Fl.zero).key.toNat (X.flows.getD (eY X s) Fl.zero).slot).1=b
   have hM:∀ L,(∀ x∈L,x.state=3→x∈X.lives)→∀ O',O'.length≤1→StepS (X,O) ({ iI (bU X (X.flows.getD (eY X s) Fl.zero).backend.toNat true) (eY X s) b with lives:=L },O++⟨5,(X.flows.getD (eY X s) Fl.zero).slot,(X.flows.getD (eY X s) Fl.zero).gen,b,0,0,0⟩ :: O') s:=by
    intro L hL O' hO';have hset:=fun g=>ha.set g;refine ⟨rfl,fun f hfl=>?_,fun f hfl hne=>?_,hL,by simp only [I8,List.length_cons];omega⟩
    ·simp only [iI,bU] at hfl;rw [hset] at hfl;simp only [List.mem_append,List.mem_cons] at hfl;rcases hfl with g|rfl|g
     ·have:=ha.ne f (List.mem_append_left _ g);rw [hs] at this;exact Or.inl ⟨ha.mem.2 (Or.inr (List.mem_append_left _ g)),this⟩
     ·refine Or.inr ?_;simp only;omega
     ·have:=ha.ne f (List.mem_append_right _ g);rw [hs] at this;exact Or.inl ⟨ha.mem.2 (Or.inr (List.mem_append_right _ g)),this⟩
    ·simp only [iI,bU];rw [hset];simp only [List.mem_append,List.mem_cons];rcases ha.mem.1 hfl with rfl|g
     ·exact absurd hs hne
     ·rcases List.mem_append.1 g with g|g
      ·exact Or.inl g
      ·exact Or.inr (Or.inr g)
   by_cases e:(X.flows.getD (eY X s) Fl.zero).backend=b
   ·rw [if_pos e];exact hM X.lives (fun _ h _=>h) [] (by simp)
   ·rw [if_neg e];obtain ⟨L,e2,hL,ho⟩:=ju (iI (bU X (X.flows.getD (eY X s) Fl.zero).backend.toNat true) (eY X s) b) (X.flows.getD (eY X s) Fl.zero).backend;rw [e2];exact hM L hL _ ho
theorem DM {P:Wd×List Out} (h:GwMay P.1) {s:Int} (hf:gF P.1 s):StepS P (lX P s) s:=by
 unfold lX;by_cases hs:(P.1.flows.getD (eY P.1 s) Fl.zero).serving=true
 ·rw [if_pos hs];exact (mK h hf P.2 6 1).step
 ·rw [if_neg hs];exact sG h hf P.2 5
theorem DR {P:Wd×List Out} (h:GwMay P.1) {s:Int} (hf:gF P.1 s):CutAns P (oO P s) s:=mK h hf P.2 6 2
structure yO (P Q:Wd×List Out) (S:List Int):Prop where
 gw:GwMay Q.1
 now:Q.1.now=P.1.now
 fl:∀ f∈Q.1.flows,(f∈P.1.flows∧f.slot∉S)∨P.1.now<f.due
 ke:∀ f∈P.1.flows,f.slot∉S→f∈Q.1.flows
 lv:∀ x∈Q.1.lives,x.state=3→x∈P.1.lives
 ou:Q.2.length≤P.2.length+2*S.length
theorem wJ:∀ (S:List Int) (P:Wd×List Out),GwMay P.1→S.Nodup→(∀ s∈S,∃ f∈P.1.flows,f.slot=s)→yO P (S.foldl lX P) S
 | [],P,h,_,_=>⟨h,rfl,fun f hf=>Or.inl ⟨hf,by simp⟩,fun f hf _=>hf,fun _ h _=>h,by simp⟩
 | s :: S,P,h,hn,hS=>by
  rw [List.nodup_cons] at hn;have hf:=mF h (hS s (Ii ..));have h1:=DM h hf
  have h2:=wJ S (lX P s) (DO h hf) hn.2 (fun t ht=>by
   obtain ⟨f,hfm,hfs⟩:=hS t (Ik _ ht)
   exact ⟨f,h1.ke f hfm (fun e=>hn.1 (by rw [← e,hfs];exact ht)),hfs⟩)
  rw [List.foldl_cons];refine ⟨h2.gw,h2.now.trans h1.now,fun f hfm=>?_,fun f hfm hns=>?_,fun x hx h3=>h1.lv x (h2.lv x hx h3) h3,?_⟩
  ·rcases h2.fl f hfm with ⟨g1,g2⟩|g
   ·rcases h1.fl f g1 with ⟨g3,g4⟩|g3
    ·exact Or.inl ⟨g3,by simp [g4,g2]⟩
    ·exact Or.inr g3
   ·rw [h1.now] at g;exact Or.inr g
  ·simp only [List.mem_cons,not_or] at hns;exact h2.ke f (h1.ke f hfm hns.1) hns.2
  ·have:=h2.ou;have:=h1.ou;simp only [List.length_cons];omega
structure zW (P Q:Wd×List Out) (S:List Int):Prop where
 gw:GwMay Q.1
 now:Q.1.now=P.1.now
 fl:∀ f,f∈Q.1.flows↔f∈P.1.flows∧f.slot∉S
 lv:∀ x∈Q.1.lives,x.state=3→x∈P.1.lives
 ou:Q.2.length+2*Q.1.flows.length≤P.2.length+2*P.1.flows.length
theorem wL:∀ (S:List Int) (P:Wd×List Out),GwMay P.1→S.Nodup→(∀ s∈S,∃ f∈P.1.flows,f.slot=s)→zW P (S.foldl oO P) S
 | [],P,h,_,_=>⟨h,rfl,fun f=>by simp,fun _ h _=>h,by simp⟩
 | s :: S,P,h,hn,hS=>by
  rw [List.nodup_cons] at hn;have hf:=mF h (hS s (Ii ..));have h1:=DR h hf
  have h2:=wL S (oO P s) (DT h hf) hn.2 (fun t ht=>by
   obtain ⟨f,hfm,hfs⟩:=hS t (Ik _ ht)
   exact ⟨f,(h1.fl f).2 ⟨hfm,(fun e=>hn.1 (by rw [← e,hfs];exact ht))⟩,hfs⟩)
  rw [List.foldl_cons];refine ⟨h2.gw,h2.now.trans h1.now,fun f=>?_,fun x hx h3=>h1.lv x (h2.lv x hx h3) h3,?_⟩
  ·rw [h2.fl,h1.fl];simp only [List.mem_cons,not_or];constructor
   ·rintro ⟨⟨a,b⟩,c⟩;exact ⟨a,b,c⟩
   ·rintro ⟨a,b,c⟩;exact ⟨⟨a,b⟩,c⟩
  ·have:=h2.ou;have:=h1.ou;have:=h1.ln;omega
theorem tP {X:Wd} (h:GwMay X) {s:Int}:s∈eM X↔∃ f∈X.flows,f.due=X.now+1∧f.slot=s:=by
 unfold eM;rw [((di _).map Tm.id).mem_iff,((h.whp.filter _).map Tm.id).mem_iff];constructor
 ·intro g;obtain ⟨t,ht,rfl⟩:=Io.1 g;obtain ⟨ht,hd⟩:=List.mem_filter.1 ht;obtain ⟨f,hf,rfl⟩:=Io.1 ht;exact ⟨f,(List.mem_filter.1 hf).1,by simpa [n7] using hd,rfl⟩
 ·rintro ⟨f,hf,hd,rfl⟩;exact Io.2 ⟨n7 f,List.mem_filter.2 ⟨Io.2 ⟨f,List.mem_filter.2 ⟨hf,by simp;omega⟩,rfl⟩,by simp [n7,hd]⟩,rfl⟩
theorem sg {X:Wd} (h:GwMay X):(eM X).Nodup:=by
 unfold eM;rw [((di _).map Tm.id).nodup_iff,((h.whp.filter _).map Tm.id).nodup_iff];exact (List.filter_sublist.map Tm.id).nodup h.tms.2
theorem CR {X:Wd} (h:GwMay X):(eM X).length≤40:=by
 have h1:=vz X;have h2:=h.whp.length_eq;exact Q122
theorem jZ (X:Wd):(iS X).flows=X.flows∧(iS X).now=X.now+1∧(iS X).lives=X.lives.map (Lf.wk (X.now+1)):=by
 have hf:=lG X;unfold iS;simp only;rw [hf];exact ⟨rfl,rfl,rfl⟩
theorem qr {L:List Int} (h:L.Nodup) {k:Nat} (hk:k<L.length):L.getD k 0∉L.take k:=by
 intro g;obtain ⟨j,hj,e⟩:=List.mem_iff_getElem.1 g;rw [Ie] at hj;rw [aO hk,List.getElem_take] at e;exact List.pairwise_iff_getElem.1 (List.nodup_iff_pairwise_ne.1 h) j k (by omega) hk (by omega) e
theorem DN {X:Wd} (h:WdMay X) (hn:X.now<1099511626776) (k:Nat):yO (iS X,[]) (fU X k) ((eM X).take k):=by
 refine wJ _ _ (Ag h hn) ((List.take_sublist _ _).nodup (sg h.gw)) fun s hs=>?_;obtain ⟨f,hf,_,hfs⟩:=(tP h.gw).1 (List.mem_of_mem_take hs);exact ⟨f,by rw [(jZ X).1];exact hf,hfs⟩
theorem mM {X:Wd} (h:WdMay X) (hn:X.now<1099511626776):yO (iS X,[]) (bV X) (eM X):=by
 have:=DN h hn (eM X).length;unfold fU at this;rw [jl,List.take_length] at this;exact this
theorem ni {X:Wd} (h:GwMay X) {b s:Int}:s∈dI X.tab b↔∃ f∈X.flows,f.backend=b∧f.slot=s:=by
 unfold dI;constructor
 ·intro g;obtain ⟨x,hx,rfl⟩:=Io.1 g;obtain ⟨k,hk,hu,hb,rfl⟩:=iU.1 hx;obtain ⟨f,hf,hs⟩:=h.us k hk hu;refine ⟨f,hf,?_,hs⟩;exact Q164
 ·rintro ⟨f,hf,rfl,rfl⟩;have h1:=h.fl f hf;have h0:=h1.s0;have h2:=h1.s1;refine Io.2 ⟨⟨f.slot.toNat,(X.tab.getD f.slot.toNat Sl.zero).gen⟩,iU.2 ⟨f.slot.toNat,by omega,by rw [h1.sl],by rw [h1.sl],rfl⟩,by simp only;omega⟩
theorem sj (T:List Sl) (b:Int):∀ n,((iV T b n).map Hd.slot).Nodup
 | 0=>by simp [iV]
 | n+1=>by
  simp only [iV,Im];rw [List.nodup_append];refine ⟨sj T b n,?_,?_⟩
  ·split<;>simp
  ·intro a ha c hc;obtain ⟨x,hx,rfl⟩:=Io.1 ha;obtain ⟨k,hk,_,_,rfl⟩:=iU.1 hx;obtain ⟨y,hy,rfl⟩:=Io.1 hc
   split at hy
   ·simp at hy;subst hy;simp;omega
   ·simp at hy
theorem nU (T:List Sl) (b:Int):(dI T b).Nodup:=sj T b _
theorem DS {P:Wd×List Out} (h:GwMay P.1) (b:Int) (j:Nat):zW P (mO P b j) ((dI P.1.tab b).take j):=by
 refine wL _ _ h ((List.take_sublist _ _).nodup (nU _ _)) fun s hs=>?_;obtain ⟨f,hf,_,hfs⟩:=(ni h).1 (List.mem_of_mem_take hs);exact ⟨f,hf,hfs⟩
structure zV (P Q:Wd×List Out) (L:List Lf):Prop where
 gw:GwMay Q.1
 now:Q.1.now=P.1.now
 fl:∀ f∈Q.1.flows,f∈P.1.flows
 lv:∀ x∈Q.1.lives,x.state=3→x∈P.1.lives
 ou:Q.2.length+2*Q.1.flows.length≤P.2.length+2*P.1.flows.length
 no:∀ x∈L,x.state=3→x.until_≤P.1.now→∀ f∈Q.1.flows,f.backend≠x.backend
theorem Bq {P:Wd×List Out} (h:GwMay P.1) (x:Lf):zV P (gb P x) [x]:=by
 unfold gb;by_cases hc:x.state≠3∨P.1.now<x.until_
 ·rw [if_pos hc];refine ⟨h,rfl,fun _ h=>h,fun _ h _=>h,Hz _,fun y hy h3 hu=>?_⟩;simp only [List.mem_singleton] at hy;subst hy;omega
 ·rw [if_neg hc];have h1:=DS h x.backend (dI P.1.tab x.backend).length;unfold mO at h1;rw [jl,List.take_length] at h1;refine ⟨h1.gw,h1.now,fun f hf=>((h1.fl f).1 hf).1,h1.lv,h1.ou,fun y hy h3 hu f hf e=>?_⟩;simp only [List.mem_singleton] at hy;subst hy;have h2:=(h1.fl f).1 hf;exact h2.2 ((ni h).2 ⟨f,h2.1,e,rfl⟩)
theorem lY:∀ (L:List Lf) (P:Wd×List Out),GwMay P.1→zV P (L.foldl gb P) L
 | [],P,h=>⟨h,rfl,fun _ h=>h,fun _ h _=>h,Hz _,fun _ hx=>by simp at hx⟩
 | x :: L,P,h=>by
  have h1:=Bq h x;have h2:=lY L (gb P x) h1.gw;rw [List.foldl_cons];refine ⟨h2.gw,h2.now.trans h1.now,fun f hf=>h1.fl f (h2.fl f hf),fun y hy h3=>h1.lv y (h2.lv y hy h3) h3,Il h2.ou h1.ou,fun y hy h3 hu f hf=>?_⟩;rcases List.mem_cons.1 hy with rfl|hy
  ·exact h1.no y (Ii ..) h3 hu f (h2.fl f hf)
  ·exact h2.no y hy h3 (by rw [h1.now];exact hu) f hf
theorem EZ {X:Wd} (h:WdMay X) (hn:X.now<1099511626776) (k:Nat):zV (bV X) (dV X k) ((bV X).1.lives.take k):=lY _ _ (mM h hn).gw
theorem uL {X:Wd} (h:WdMay X) (hn:X.now<1099511626776):zV (bV X) (j9 X) (bV X).1.lives:=lY _ _ (mM h hn).gw
theorem EY {X:Wd} (h:WdMay X) (hn:X.now<1099511626776):(bV X).2.length+2*(bV X).1.flows.length≤160:=by
 have h1:=mM h hn;have h2:=h1.ou;have h3:=CR h.gw;have h4:=h1.gw.len;simp only [List.length_nil] at h2;omega
theorem zb {X:Wd} (h:WdMay X) (hn:X.now<1099511626776):WdMay (j9 X).1∧(j9 X).1.now=X.now+1:=by
 have h1:=mM h hn;have h2:=uL h hn;have h3:=jZ X;have e3:(bV X).1.now=X.now+1:=h1.now.trans h3.2.1;have e4:(j9 X).1.now=X.now+1:=h2.now.trans e3;refine ⟨⟨h2.gw,fun f hf=>?_,fun x hx hs=>?_⟩,e4⟩
 ·rw [e4];rcases h1.fl f (h2.fl f hf) with ⟨g1,g2⟩|g
  ·rw [h3.1] at g1;have d1:=h.du f g1;have d2:f.due≠X.now+1:=fun e=>g2 ((tP h.gw).2 ⟨f,g1,e,rfl⟩);omega
  ·simp only at g;rw [h3.2.1] at g;exact g
 ·rw [e4];refine Classical.byContradiction fun g=>?_;have hx3:=h2.lv x hx hs;obtain ⟨f,hf,hfb⟩:=h2.gw.dr x hx hs;exact h2.no x hx3 hs (by rw [e3];omega) f hf hfb
theorem xA {X:Wd} (h:bG X.lives X.reqs):(dp X).Nodup:=by
 rw [yS,List.nodup_iff_pairwise_ne,List.pairwise_map];exact ((cO h).filter _).imp fun {a b} hab=>by omega
theorem EH {L:List Lf} {R:List Rq} (h:bG L R) (b:Int):0≤oG L b∧oG L b≤8:=by
 unfold oG
 cases hl:dD L b with
 | none=>simp
 | some x=>
  have:=eP h (eN hl).1;simp only [Option.map_some,Ip];exact ⟨by have:=this.2.2.1;omega,this.2.2.2.1⟩
theorem EX {X:Wd} (h:GwMay X) (hn:X.now<1099511626776) {k:Nat} (hk:k<(dp X).length):0≤(dp X).getD k 0∧(dp X).getD k 0≤11∧(∃ x,dD (bM X).lives ((dp X).getD k 0)=some x∧1≤x.weight∧x.weight≤8)∧RgMay (fD X k).ring∧(fD X k).lives=(bM X).lives∧(fD X k).health.length=12∧(gh (fD X k).ring).getD ((dp X).getD k 0).toNat 0=0:=by
 have n0:=h.n0;have hbk:bG (bM X).lives X.reqs:=E7 (by omega) (by omega) h.bk
 have hm:(dp X).getD k 0∈dp X:=by rw [aO hk];exact Ib hk
 have hbd:=sY h.bk hm;have hs:=(mc h.bk).1 hm;have hno:=qr (xA h.bk) hk;generalize (dp X).getD k 0=y at hm hbd hs hno ⊢;have hW:=pn ((dp X).take k) (bM X) (dK X.lives) (cB _) h.rg;have hl:(((dp X).take k).foldl (yR (bM X).lives) (dK X.lives)).length=12:=by rw [sW,cB]
 have hpos:∀ z∈(dp X).take k,0≤z:=fun z hz=>(sY h.bk (List.mem_of_mem_take hz)).1;have hb12:y.toNat<12:=by omega
 have hyn:((y.toNat:Nat):Int)=y:=by omega
 have e:fD X k=((dp X).take k).foldl gp (bM X):=rfl;rw [← e] at hW;refine ⟨hbd.1,hbd.2,?_,?_,hW.2.1,?_,?_⟩
 ·obtain ⟨x,hx,rfl,hx1⟩:=mg hs (by decide);have hl1:=jB (cO h.bk) hx;have hb1:=eP h.bk hx;refine ⟨Lf.wk (X.now+1) x,by show dD (X.lives.map (Lf.wk (X.now+1))) _=_;rw [pd,hl1];rfl,?_⟩
  have hw:(Lf.wk (X.now+1) x).weight=x.weight:=by unfold Lf.wk;by_cases g:x.state=1<;>simp [g]
  rw [hw];exact ⟨hb1.2.2.1,hb1.2.2.2.1⟩
 ·rw [hW.1];refine pO hl fun b=>?_;by_cases hb:b<12
  ·rw [oU _ hb _ _ (cB _) hpos]
   split
   ·have:=EH hbk b;omega
   ·exact zr h.bk b
  ·rw [show (((dp X).take k).foldl (yR (bM X).lives) (dK X.lives)).getD b 0=0 by simp only [List.getD];rw [Ig (by omega)];rfl];omega
 ·rw [hW.2.2];exact h.hl
 ·rw [hW.1,iD hl,oU _ hb12 _ _ (cB _) hpos,hyn,if_neg hno,ff _ hb12,hyn];unfold gU at hs
  cases hlf:dD X.lives y with
  | none=>rfl
  | some x=>
   rw [hlf] at hs;simp only [Option.map_some,Ip] at hs;simp only;rw [if_neg (by omega)]
theorem Cb {X:Wd} (h:WdMay X) (hn:X.now<1099511626776):zM X:=by
 have g:=h.gw;have n0:=g.n0;have ho:=EY h hn;refine { wh:=g.wh,wn:=g.wn,n0:=n0,n1:=hn,bk:=g.bk,bk2:=E7 (by omega) (by omega) g.bk,hl:=g.hl,hl1:=by rw [uM];exact g.hl,wo:=fun k hk=>EX g hn hk,ba:=fun i hi=>F2 g hn hi,du:=?_,b3:=(mM h hn).gw.bk,dr:=?_ }
 ·intro k hk;have h1:=DN h hn k
  have hm:(eM X).getD k 0∈eM X:=by rw [aO hk];exact Ib hk
  obtain ⟨f,hf,_,hfs⟩:=(tP g).1 hm;have hno:=qr (sg g) hk;refine ⟨h1.gw,mF h1.gw ⟨f,h1.ke f (by rw [(jZ X).1];exact hf) (by rw [hfs];exact hno),hfs⟩,?_⟩;have h2:=h1.ou;have h3:=CR g;simp only [List.length_nil,Ie] at h2;omega
 ·intro k hk h3 hu;have h1:=EZ h hn k;have ho1:=h1.ou;refine ⟨h1.gw.tb,fun j hj=>?_⟩;have h2:=DS h1.gw ((bV X).1.lives.getD k Lf.zero).backend j
  have hm:(dI (dV X k).1.tab ((bV X).1.lives.getD k Lf.zero).backend).getD j 0∈dI (dV X k).1.tab ((bV X).1.lives.getD k Lf.zero).backend:=by rw [aO hj];exact Ib hj
  obtain ⟨f,hf,_,hfs⟩:=(ni h1.gw).1 hm;have hno:=qr (nU _ _) hj;refine ⟨h2.gw,mF h2.gw ⟨f,(h2.fl f).2 ⟨hf,by rw [hfs];exact hno⟩,hfs⟩,?_⟩;have ho2:=h2.ou;omega
end
end Go.Proofs.YtneailjecbfljaaGreatDoor
