/- Texts of the row's proof. Conditions: none. -/
import Derived.Test.YtfliffgmeobclaaGreatK35
namespace Go.Proofs.YtfliffgmeobclaaGreat
set_option maxRecDepth 100000
set_option maxHeartbeats 8000000
section
open Go.RowKit
def bM (X:Wd):Wd:={ X with now:=X.now+1,wnow:=X.now+1,lists:=bK (X.now+1) (X.lists.flatten.filter fun t=>decide (X.now+1<t.at_)),lives:=X.lives.map (Lf.wk (X.now+1)) }
def eN (X:Wd):List Int:=(iD (X.lists.flatten.filter fun t=>t.at_ == X.now+1)).map Tm.id
def ds (X:Wd):List Int:=lD X.lives X.lives.length
def oI (L:List Lf) (y:Int):Int:=((dt L y).map Lf.weight).getD 0
def gp (X:Wd) (y:Int):Wd:={ X with ring:=bO ((gh X.ring).set y.toNat (oI X.lives y).toNat),health:=X.health.set y.toNat Ht.zero }
def fD (X:Wd) (k:Nat):Wd:=((ds X).take k).foldl gp (bM X)
def cu (X:Wd):Wd:=(ds X).foldl gp (bM X)
theorem pq:∀ (L:List Int) (P:Wd),(L.foldl gp P).reqs=P.reqs∧(L.foldl gp P).cf=P.cf∧(L.foldl gp P).now=P.now
 | [],_=>⟨rfl,rfl,rfl⟩
 | y :: L,P=>pq L (gp P y)
theorem FK {L:List Lf} {R:List Rq} {b:Int} {x:Lf} (h:bF L R) (hx:dt L b=some x):xq L R b x 0:=by
 rcases bJ (cE b) L Lf.zero with ⟨h1,_⟩|⟨i,hi,h1,_⟩
 ·rw [(fH L b).1 h1] at hx
  cases hx
 ·have:=(fH L b).2 i h1 hi;rw [hx] at this;exact Or.inr (Or.inr ⟨h,⟨i,hi,h1,Option.some.inj this⟩,rfl⟩)
def fI (now:Int) (h:Ht):Ht:=if h.out=true∧h.until_≤now then { h with out:=false,until_:=0 } else h
def gm (X:Wd) (k:Nat):Wd:={ X with health:=(X.health.take k).map (fI X.now)++X.health.drop k }
def iU (X:Wd):Wd:={ cu X with health:=(cu X).health.map (fI (cu X).now) }
def lX (P:Wd×List Out) (slot:Int):Wd×List Out:=
 if (P.1.flows.getD (eY P.1 slot) Fl.zero).serving=true then ((gQ P.1 (eY P.1 slot) 6 1).1,P.2++(gQ P.1 (eY P.1 slot) 6 1).2)
 else ((eU P.1 (eY P.1 slot) 5).1,P.2++(eU P.1 (eY P.1 slot) 5).2)
def fU (X:Wd) (k:Nat):Wd×List Out:=((eN X).take k).foldl lX (iU X,[])
def bV (X:Wd):Wd×List Out:=(eN X).foldl lX (iU X,[])
def oQ (P:Wd×List Out) (slot:Int):Wd×List Out:=((gQ P.1 (eY P.1 slot) 6 2).1,P.2++(gQ P.1 (eY P.1 slot) 6 2).2)
def dK (T:List Sl) (b:Int):List Int:=(iX T b T.length).map Hd.slot
def gb (P:Wd×List Out) (x:Lf):Wd×List Out:=if x.state≠3∨P.1.now<x.until_ then P else (dK P.1.tab x.backend).foldl oQ P
def dX (X:Wd) (k:Nat):Wd×List Out:=((bV X).1.lives.take k).foldl gb (bV X)
def jc (X:Wd):Wd×List Out:=(bV X).1.lives.foldl gb (bV X)
def mQ (P:Wd×List Out) (b:Int) (j:Nat):Wd×List Out:=((dK P.1.tab b).take j).foldl oQ P
theorem kS {α β:Type} (f:β→α→β) (b:β) (L:List α) (d:α) {k:Nat} (h:k<L.length):(L.take (k+1)).foldl f b=f ((L.take k).foldl f b) (L.getD k d):=by
 rw [Ia h,List.foldl_append,aN h]
 rfl
theorem jo {α β:Type} (f:β→α→β) (b:β) (L:List α):(L.take L.length).foldl f b=L.foldl f b:=by rw [Ie (I3 _)]
theorem yH (X:Wd) {k:Nat} (h:k<X.health.length):(gm X (k+1)).health=(gm X k).health.set k (fI X.now (X.health.getD k Ht.zero)):=by
 unfold gm;simp only;rw [Ia h,aN h]
 have hl:((X.health.take k).map (fI X.now)).length=k:=by simp;omega
 have e:X.health.drop k=X.health[k] :: X.health.drop (k+1):=(List.getElem_cons_drop h).symm;rw [List.set_append_right k _ (by omega),hl,Nat.sub_self,e];simp only [Ir,List.map_cons,List.map_nil,List.append_assoc,List.singleton_append,List.set_cons_zero]
theorem Ef (X:Wd) {k:Nat} (h:k<X.health.length):(gm X k).health.getD k Ht.zero=X.health.getD k Ht.zero:=by
 unfold gm;simp only
 have hl:((X.health.take k).map (fI X.now)).length=k:=by simp;omega
 simp only [List.getD];rw [IC (by omega),hl,Nat.sub_self,List.getElem?_drop];simp
theorem BE (X:Wd) (k:Nat):(gm X k).health.length=X.health.length:=by unfold gm;simp;omega
def gF (X:Wd) (sl:Int):Prop:=aQ (mK sl) X.flows=(eY X sl:Int)∧eY X sl<X.flows.length
structure zN (X:Wd):Prop where
 wh:WhMay X.now X.lists
 wn:X.wnow=X.now
 n0:0≤X.now
 n1:X.now<1099511626776
 bk:bF X.lives X.reqs
 bk2:bF (bM X).lives X.reqs
 hl:X.health.length=12
 hl1:(cu X).health.length=12
 wo:∀ k,k<(ds X).length→0≤(ds X).getD k 0∧(ds X).getD k 0≤11∧(∃ x,dt (bM X).lives ((ds X).getD k 0)=some x∧1≤x.weight∧x.weight≤8)∧RgMay (fD X k).ring∧(fD X k).lives=(bM X).lives∧(fD X k).health.length=12∧(gh (fD X k).ring).getD ((ds X).getD k 0).toNat 0=0
 ba:∀ i,i<12→ge X.cf.ww X.cf.wf X.cf.wh ((cu X).health.getD i Ht.zero).marks.length ((cu X).health.getD i Ht.zero).out ((cu X).health.getD i Ht.zero).until_ ((cu X).health.getD i Ht.zero).times (X.now+1) 0
 du:∀ k,k<(eN X).length→GwMay (fU X k).1∧gF (fU X k).1 ((eN X).getD k 0)∧(fU X k).2.length≤1000
 b3:bF (bV X).1.lives (bV X).1.reqs
 dr:∀ k,k<(bV X).1.lives.length→((bV X).1.lives.getD k Lf.zero).state=3→((bV X).1.lives.getD k Lf.zero).until_≤(dX X k).1.now→dN (dX X k).1.tab∧∀ j,j<(dK (dX X k).1.tab ((bV X).1.lives.getD k Lf.zero).backend).length→
  GwMay (mQ (dX X k) ((bV X).1.lives.getD k Lf.zero).backend j).1∧gF (mQ (dX X k) ((bV X).1.lives.getD k Lf.zero).backend j).1 ((dK (dX X k).1.tab ((bV X).1.lives.getD k Lf.zero).backend).getD j 0)∧(mQ (dX X k) ((bV X).1.lives.getD k Lf.zero).backend j).2.length≤1000
theorem zK (c:Cf) (h:Ht) (now:Int) (h0:ge c.ww c.wf c.wh h.marks.length h.out h.until_ h.times now 0):∃ came,zY c.ww c.wf c.wh h.marks h.out h.until_ h.times now (fI now h).marks (fI now h).out (fI now h).until_ (fI now h).times came 0:=by
 unfold fI;by_cases hc:h.out=true∧h.until_≤now
 ·rw [if_pos hc];exact ⟨true,h0,Or.inr (Or.inl ⟨rfl,hc.1,hc.2,rfl,rfl,rfl,rfl,rfl⟩)⟩
 ·rw [if_neg hc];refine ⟨false,h0,Or.inr (Or.inr ⟨rfl,?_,rfl,rfl,rfl,rfl,rfl⟩)⟩
  cases ho:h.out with
  | false=>exact Or.inl rfl
  | true=>exact Or.inr ⟨rfl,by rw [ho] at hc;simp at hc;exact hc⟩
theorem Ee (X:Wd) {n:Nat} (h:X.health.length=n):gm X n={ X with health:=X.health.map (fI X.now) }:=by
 unfold gm;rw [← h];simp
theorem back_0 (X:Wd):gm X 0=X:=by unfold gm;simp
theorem BX (X:Wd):(ds X).length≤X.lives.length:=by unfold ds lD;rw [I9];exact Iq (List.length_filter_le _ _) (List.length_take_le _ _)
theorem vz (X:Wd):(eN X).length≤X.lists.flatten.length:=by unfold eN;rw [I9,(di _).length_eq];exact List.length_filter_le _ _
theorem yW (now:Int) (x:Lf):(Lf.wk now x).backend=x.backend:=by unfold Lf.wk;by_cases h:x.state=1<;>simp [h]
theorem pe (now b:Int):∀ L:List Lf,dt (L.map (Lf.wk now)) b=(dt L b).map (Lf.wk now)
 | []=>rfl
 | a :: L=>by
  rw [List.map_cons,gC,gC,yW,pe now b L];by_cases h:a.backend=b
  ·rw [if_pos h,if_pos h]
   rfl
  ·rw [if_neg h,if_neg h]
theorem wk_may {now:Int} (h0:0≤now) (h1:now≤1099511627776) {x:Lf} (h:ex x):ex (Lf.wk now x):=by
 obtain ⟨a1,a2,a3,a4,a5,a6,a7,a8,a9,a10,hs⟩:=h;unfold Lf.wk;by_cases e:x.state=1
 ·rw [if_pos e];have:x.until_=0∧x.request=0:=by omega
  exact ⟨a1,a2,a3,a4,h0,h1,a7,a8,a9,a10,Or.inr (Or.inl ⟨rfl,this.1,this.2⟩)⟩
 ·rw [if_neg e];exact ⟨a1,a2,a3,a4,a5,a6,a7,a8,a9,a10,hs⟩
theorem E9 {now:Int} (h0:0≤now) (h1:now≤1099511627776) {L:List Lf} {R:List Rq} (h:bF L R):bF (L.map (Lf.wk now)) R:=by
 refine Hj (fun x hx=>?_) ?_ h.2.1 h.2.2.2.1 h.2.2.2.2
 ·obtain ⟨y,hy,rfl⟩:=It.1 hx;exact wk_may h0 h1 (eO h hy)
 ·rw [List.pairwise_map]
  exact (cG h).imp fun {a b} hab=>by rw [yW,yW];exact hab
theorem stB_wk (now b:Int) (L:List Lf):gL (L.map (Lf.wk now)) b=if gL L b=1 then 2 else gL L b:=by
 unfold gL;exact Q118
def yS (L:List Lf) (ws:List Nat) (y:Int):List Nat:=ws.set y.toNat (oI L y).toNat
theorem sX (L:List Lf):∀ (Y:List Int) (ws:List Nat),(Y.foldl (yS L) ws).length=ws.length
 | [],_=>rfl
 | y :: Y,ws=>by rw [List.foldl_cons,sX L Y];simp [yS]
theorem po:∀ (Y:List Int) (P:Wd) (ws:List Nat),ws.length=12→P.ring=bO ws→(Y.foldl gp P).ring=bO (Y.foldl (yS P.lives) ws)∧(Y.foldl gp P).lives=P.lives∧(Y.foldl gp P).health.length=P.health.length
 | [],_,_,_,h=>⟨h,rfl,rfl⟩
 | y :: Y,P,ws,hl,h=>by
  rw [List.foldl_cons,List.foldl_cons]
  have h1:(gp P y).ring=bO (yS P.lives ws y):=by
   unfold gp yS;simp only;rw [h,iE hl]
  have h2:=po Y (gp P y) (yS P.lives ws y) (by simp [yS,hl]) h1;refine ⟨h2.1,h2.2.1,h2.2.2.trans ?_⟩;simp [gp]
theorem oW (L:List Lf) {b:Nat} (hb:b<12):∀ (Y:List Int) (ws:List Nat),ws.length=12→(∀ y∈Y,0≤y)→(Y.foldl (yS L) ws).getD b 0=if (b:Int)∈Y then (oI L b).toNat else ws.getD b 0
 | [],ws,_,_=>by simp
 | y :: Y,ws,hl,h0=>by
  have hy:=h0 y (Im ..);rw [List.foldl_cons,oW L hb Y _ (by simp [yS,hl]) (fun z hz=>h0 z (Ip _ hz))];by_cases h1:(b:Int)∈Y
  ·rw [if_pos h1,if_pos (Ip _ h1)]
  ·rw [if_neg h1];unfold yS;by_cases h2:(b:Int)=y
   ·subst h2;rw [if_pos (Im ..),Id,cO (by omega),if_pos rfl]
   ·rw [if_neg (by simp [h1,h2])];by_cases h3:y.toNat<ws.length
    ·rw [cO h3,if_neg (by omega)]
    ·rw [List.set_eq_of_length_le (by omega)]
theorem yT (X:Wd):ds X=(X.lives.filter fun x=>decide (x.state=1)).map Lf.backend:=by unfold ds lD;rw [Ie (I3 _)]
theorem mc {X:Wd} (h:bF X.lives X.reqs) {b:Int}:b∈ds X↔gL X.lives b=1:=by
 rw [yT];constructor
 ·intro hb;obtain ⟨x,hx,rfl⟩:=It.1 hb;obtain ⟨hx,h1⟩:=List.mem_filter.1 hx;rw [pH (cG h) hx];simpa using h1
 ·intro hb;obtain ⟨x,hx,e,h1⟩:=mh hb (by decide);exact It.2 ⟨x,List.mem_filter.2 ⟨hx,by simpa using h1⟩,e⟩
theorem sZ {X:Wd} (h:bF X.lives X.reqs) {b:Int} (hb:b∈ds X):0≤b∧b≤11:=by
 obtain ⟨x,hx,rfl,_⟩:=mh ((mc h).1 hb) (by decide);have:=eO h hx;exact ⟨this.1,this.2.1⟩
theorem EK (now b:Int) (L:List Lf):oI (L.map (Lf.wk now)) b=oI L b:=by
 unfold oI;exact Q118
theorem FJ {X:Wd} (h:bF X.lives X.reqs) (now:Int):(ds X).foldl (yS (X.lives.map (Lf.wk now))) (dM X.lives)=dM (X.lives.map (Lf.wk now)):=by
 have h12:((ds X).foldl (yS (X.lives.map (Lf.wk now))) (dM X.lives)).length=12:=by rw [sX,cB]
 refine List.ext_getElem (by rw [h12,cB]) fun b h1 h2=>?_;have hb:b<12:=by omega
 rw [← aN h1 0,← aN h2 0,oW _ hb _ _ (cB _) (fun y hy=>(sZ h hy).1),ff _ hb,ff _ hb,pe,EK];by_cases hw:(b:Int)∈ds X
 ·rw [if_pos hw];have hs:=(mc h).1 hw;unfold gL at hs;unfold oI
  cases hl:dt X.lives (b:Nat) with
  | none=>rw [hl] at hs;simp at hs
  | some x=>
   exact Q155
 ·rw [if_neg hw];have hs:gL X.lives b≠1:=fun g=>hw ((mc h).2 g);unfold gL at hs
  cases hl:dt X.lives (b:Nat) with
  | none=>rfl
  | some x=>
   exact Q155
theorem xE {X:Wd} (h:GwMay X):(cu X).ring=bO (dM (cu X).lives):=by
 have h1:=po (ds X) (bM X) (dM X.lives) (cB _) h.rg;unfold cu;rw [h1.1,h1.2.1]
 congr 1
 exact FJ h.bk _
theorem fT (now:Int) (A B:List Fl):ej now (A++B)=ej now A++ej now B:=by simp [ej]
theorem tf {now s:Int} {A:List Fl} (h:∀ g∈A,g.slot≠s):(ej now A).filter (fun t=>!(t.id == s))=ej now A:=by
 refine List.filter_eq_self.2 fun t ht=>?_;obtain ⟨g,hg,rfl⟩:=It.1 ht;have:=h g (List.mem_filter.1 hg).1;simpa [nc] using this
theorem F0 {now:Int} {f:Fl}:(ej now [f]).filter (fun t=>!(t.id == f.slot))=[]:=by
 refine List.filter_eq_nil_iff.2 fun t ht=>?_;obtain ⟨g,hg,rfl⟩:=It.1 ht;have:=(List.mem_filter.1 hg).1;simp at this;subst this;simp [nc]
structure Around (F:List Fl) (i:Nat) (A:List Fl) (f:Fl) (B:List Fl):Prop where
 eq:F=A++f :: B
 len:A.length=i
 ne:∀ g∈A++B,g.slot≠f.slot
 so:(A++B).Pairwise fun a b=>a.slot<b.slot
theorem qS {F:List Fl} (hs:F.Pairwise fun a b=>a.slot<b.slot) {i:Nat} (hi:i<F.length):Around F i (F.take i) (F.getD i Fl.zero) (F.drop (i+1)):=by
 have e:F=F.take i++F.getD i Fl.zero :: F.drop (i+1):=by
  conv=>lhs;rw [← Io i F]
  rw [aN hi,List.getElem_cons_drop]
 refine ⟨e,by rw [Ii];omega,fun g hg=>?_,?_⟩
 ·rw [e,List.pairwise_append,List.pairwise_cons] at hs;rcases List.mem_append.1 hg with hg|hg
  ·have:=hs.2.2 g hg _ (Im ..);omega
  ·have:=hs.2.1.1 g hg;omega
 ·rw [e] at hs;refine hs.sublist ?_;exact List.Sublist.append (List.Sublist.refl _) (List.sublist_cons_self _ _)
theorem Around.mem {F A B:List Fl} {i:Nat} {f g:Fl} (h:Around F i A f B):g∈F↔g=f∨g∈A++B:=by
 rw [h.eq];simp only [List.mem_append,List.mem_cons];constructor
 ·exact Q160
 ·exact Q160
theorem zI {X:Wd} (h:GwMay X) {i:Nat} {A B:List Fl} {f:Fl} (ha:Around X.flows i A f B):(X.lists.flatten.filter fun t=>!(t.id == f.slot)).Perm (ej X.now (A++B)):=by
 refine (h.whp.filter _).trans ?_
 have e:X.flows=A++([f]++B):=by rw [ha.eq];rfl
 rw [e,fT,fT,fT,List.filter_append,List.filter_append,tf (fun g hg=>ha.ne g (List.mem_append_left _ hg)),tf (fun g hg=>ha.ne g (List.mem_append_right _ hg)),F0];exact List.Perm.refl _
theorem DR {X:Wd} (h:GwMay X) {i:Nat} (hi:i<X.flows.length):GwBut (jq X i (eK X.tab (X.flows.getD i Fl.zero))) (X.flows.getD i Fl.zero).backend:=by
 have ha:=qS h.so hi;generalize hA:X.flows.take i=A at ha;generalize hB:X.flows.drop (i+1)=B at ha;generalize hf:X.flows.getD i Fl.zero=f at ha;have hfm:f∈X.flows:=ha.mem.2 (Or.inl rfl);have hff:=h.fl f hfm;have hs0:=hff.s0;have hs1:=hff.s1
 have hd:jq X i (eK X.tab f)={ X with flows:=A++B,tab:=eK X.tab f,lists:=BC X.now X.lists f.slot }:=by unfold jq;rw [hA,hB,hf]
 rw [hd];have hti:f.slot.toNat<X.tab.length:=by omega
 refine { cf:=h.cf,n0:=h.n0,n1:=h.n1,tb:=h.tabd hfm,tl:=?_,bk:=h.bk,hl:=h.hl,ht:=h.ht,ho:=h.ho,t0:=h.t0,t1:=h.t1,rg:=h.rg,wn:=h.wn,wl:=?_,so:=ha.so,fl:=fun g hg=>?_,us:=?_,dr:=?_,si:=h.si }
 ·simp only [eK,Ig];exact h.tl
 ·simp only [BC];exact fF (zI h ha)
 ·have h1:=h.fl g (ha.mem.2 (Or.inr hg));have hne:=ha.ne g hg;have g0:=h1.s0;refine ⟨h1.s0,by simp only [eK,Ig];exact h1.s1,?_,h1.r0,h1.r1,h1.st,h1.d0,h1.d1⟩;simp only [eK];rw [cO hti,if_neg (by omega)];exact h1.sl
 ·intro s hs hu;simp only [eK,Ig] at hs hu;rw [cO hti] at hu;by_cases e:f.slot.toNat=s
  ·rw [if_pos e] at hu
   cases hu
  ·rw [if_neg e] at hu;obtain ⟨g,hg,hgs⟩:=h.us s hs hu;rcases ha.mem.1 hg with rfl|hg
   ·omega
   ·exact ⟨g,hg,hgs⟩
 ·intro x hx h3 hne;obtain ⟨g,hg,hgb⟩:=h.dr x hx h3;rcases ha.mem.1 hg with rfl|hg
  ·exact absurd hgb.symm hne
  ·exact ⟨g,hg,hgb⟩
theorem mN {X:Wd} (h:GwMay X) {i:Nat} (hi:i<X.flows.length) (k y:Int):GwMay (gQ X i k y).1:=lI (DR h hi)
theorem Around.set {F A B:List Fl} {i:Nat} {f:Fl} (h:Around F i A f B) (g:Fl):F.set i g=A++g :: B:=by
 rw [h.eq,List.set_append_right i g (by rw [h.len];exact I3 _),h.len,Nat.sub_self,List.set_cons_zero]
theorem Around.so' {F A B:List Fl} {i:Nat} {f g:Fl} (h:Around F i A f B) (hF:F.Pairwise fun a b=>a.slot<b.slot) (hs:g.slot=f.slot):(A++g :: B).Pairwise fun a b=>a.slot<b.slot:=by
 have e:(A++g :: B).map Fl.slot=F.map Fl.slot:=by rw [h.eq];simp [hs]
 have h1:(F.map Fl.slot).Pairwise (fun a b=>a<b):=List.pairwise_map.2 hF;rw [← e] at h1;exact List.pairwise_map.1 h1
theorem zb {now:Int} {g:Fl} (h:now<g.due):ej now [g]=[nc g]:=by simp [ej,h]
theorem Gh {X:Wd} (h:GwMay X) {i:Nat} {A B:List Fl} {f g:Fl} (ha:Around X.flows i A f B) {span:Int} (hs:g.slot=f.slot) (hd:g.due=X.now+span) (h1:1≤span):jE X.now X.lists f.slot span=bK X.now (ej X.now (A++g :: B)):=by
 unfold jE;refine fF ?_;have e:A++g :: B=A++([g]++B):=rfl;rw [e,fT,fT,zb (by omega),show nc g=⟨X.now+span,f.slot⟩ by unfold nc;rw [hs,hd]];refine ((zI h ha).append_right _).trans ?_;rw [fT,List.append_assoc];exact (List.perm_append_comm).append_left _
structure zS (X:Wd) (f g:Fl) (span:Int):Prop where
 sl:g.slot=f.slot
 gn:g.gen=f.gen
 ky:g.key=f.key
 du:g.due=X.now+span
 s1:1≤span
 s2:span≤500
 r0:0≤g.retries
 r1:g.retries≤X.cf.retries
 st:gL X.lives g.backend=2∨gL X.lives g.backend=3
def sP (X:Wd) (i:Nat) (g:Fl) (span tok:Int):Wd:={ X with tok:=tok,tab:=X.tab.set g.slot.toNat ⟨g.gen,true,g.key,g.backend⟩,flows:=X.flows.set i g,lists:=jE X.now X.lists g.slot span }
theorem Ch {L:List Lf} {R:List Rq} (h:bF L R) {b:Int} (hs:gL L b=2∨gL L b=3):0≤b∧b≤11:=by
 have:∃ x∈L,x.backend=b:=by
  rcases hs with hs|hs
  ·obtain ⟨x,hx,e,_⟩:=mh hs (by decide);exact ⟨x,hx,e⟩
  ·obtain ⟨x,hx,e,_⟩:=mh hs (by decide);exact ⟨x,hx,e⟩
 obtain ⟨x,hx,rfl⟩:=this;have:=eO h hx;exact ⟨this.1,this.2.1⟩
theorem wY {X:Wd} (h:GwMay X) {i:Nat} (hi:i<X.flows.length) {g:Fl} {span tok:Int} (hg:zS X (X.flows.getD i Fl.zero) g span) (h0:0≤tok) (h1:tok≤X.cf.bb*X.cf.bd):GwBut (sP X i g span tok) (X.flows.getD i Fl.zero).backend:=by
 have ha:=qS h.so hi;generalize hA:X.flows.take i=A at ha;generalize hB:X.flows.drop (i+1)=B at ha;generalize hf:X.flows.getD i Fl.zero=f at ha hg ⊢;have hfm:f∈X.flows:=ha.mem.2 (Or.inl rfl);have hff:=h.fl f hfm;obtain ⟨q,q1,q2,q3,q4,q5,q6,q7,q8,q9⟩:=h.num hfm;have hs0:=hff.s0;have hs1:=hff.s1
 have hti:g.slot.toNat<X.tab.length:=by rw [hg.sl];omega
 have hbb:=Ch h.bk hg.st;have hset:=ha.set g;unfold sP;rw [hset];refine { cf:=h.cf,n0:=h.n0,n1:=h.n1,tb:=?_,tl:=?_,bk:=h.bk,hl:=h.hl,ht:=h.ht,ho:=h.ho,t0:=h0,t1:=h1,rg:=h.rg,wn:=h.wn,wl:=?_,so:=ha.so' h.so hg.sl,fl:=fun k hk=>?_,us:=?_,dr:=?_,si:=h.si }
 ·refine oX h.tb _ ?_;unfold dw;simp only [if_true,hg.gn,hg.ky];omega
 ·simp only [Ig];exact h.tl
 ·simp only;rw [hg.sl];exact Gh h ha hg.sl hg.du hg.s1
 ·simp only at hk
  have hk':k=g∨k∈A++B:=by
   simp only [List.mem_append,List.mem_cons] at hk ⊢;rcases hk with hk|hk|hk
   ·exact Or.inr (Or.inl hk)
   ·exact Or.inl hk
   ·exact Or.inr (Or.inr hk)
  rcases hk' with rfl|hk'
  ·refine ⟨by rw [hg.sl];exact hs0,by simp only [Ig];rw [hg.sl];exact hs1,?_,hg.r0,hg.r1,hg.st,?_,?_⟩
   ·simp only;rw [cO hti,if_pos rfl]
   ·have:=hg.du;have:=hg.s1;simp only;omega
   ·have:=hg.du;have:=hg.s2;simp only;omega
  ·have h2:=h.fl k (ha.mem.2 (Or.inr hk'));have hne:=ha.ne k hk';have g0:=h2.s0;refine ⟨h2.s0,by simp only [Ig];exact h2.s1,?_,h2.r0,h2.r1,h2.st,h2.d0,h2.d1⟩;simp only;rw [cO hti,if_neg (by rw [hg.sl];omega)];exact h2.sl
 ·intro s hs hu;simp only [Ig] at hs hu;rw [cO hti] at hu;by_cases e:g.slot.toNat=s
  ·exact ⟨g,by simp,by rw [hg.sl] at e ⊢;omega⟩
  ·rw [if_neg e] at hu;obtain ⟨k,hk,hks⟩:=h.us s hs hu;rcases ha.mem.1 hk with rfl|hk
   ·rw [hg.sl] at e;omega
   ·refine ⟨k,?_,hks⟩;exact Q130
 ·intro x hx h3 hne;obtain ⟨k,hk,hkb⟩:=h.dr x hx h3;rcases ha.mem.1 hk with rfl|hk
  ·exact absurd hkb.symm hne
  ·refine ⟨k,?_,hkb⟩;exact Q130
theorem sO {X:Wd} (h:GwMay X) {i:Nat} (hi:i<X.flows.length) {g:Fl} {span tok:Int} (hg:zS X (X.flows.getD i Fl.zero) g span) (h0:0≤tok) (h1:tok≤X.cf.bb*X.cf.bd) (hb:g.backend=(X.flows.getD i Fl.zero).backend):GwMay (sP X i g span tok):=
 (wY h hi hg h0 h1).all fun x _ _ e=>⟨g,by
  unfold sP;simp only;rw [List.mem_iff_getElem]
  exact ⟨i,by simpa using hi,by simp⟩,by rw [hb,e]⟩
theorem GwMay.at_ {X:Wd} (_:GwMay X) {i:Nat} (hi:i<X.flows.length):X.flows.getD i Fl.zero∈X.flows:=by rw [aN hi];exact If hi
theorem wI {X:Wd} (h:GwMay X) {i:Nat} (hi:i<X.flows.length) (why:Int):GwMay (eU X i why).1:=by
 have hfm:=h.at_ hi;obtain ⟨q,q1,q2,q3,q4,q5,q6,q7,q8,q9⟩:=h.num hfm;have hff:=h.fl _ hfm;have hN:=h.noted (b:=(X.flows.getD i Fl.zero).backend.toNat) (by omega) true
 have hbd:1≤X.cf.bd:=by have:=h.cf.2.1;unfold i8 at this;omega
 have ht1:=h.t1;unfold eU;simp only;by_cases hc:(X.flows.getD i Fl.zero).retries=X.cf.retries∨X.tok<X.cf.bd
 ·rw [if_pos hc];exact mN hN hi _ _
 ·rw [if_neg hc];by_cases hp:(dC (bU X (X.flows.getD i Fl.zero).backend.toNat true) (X.flows.getD i Fl.zero).key.toNat (X.flows.getD i Fl.zero).slot).2≠0
  ·rw [if_pos hp];exact mN hN hi _ _
  ·rw [if_neg hp];obtain ⟨x,hx,hx2,hxb⟩:=tK hN (hN.butF (f:=X.flows.getD i Fl.zero) hfm) (Decidable.not_not.1 hp);generalize (dC (bU X (X.flows.getD i Fl.zero).backend.toNat true) (X.flows.getD i Fl.zero).key.toNat (X.flows.getD i Fl.zero).slot).1=b at hxb ⊢;have hr0:=hff.r0;have hr1:=hff.r1;have hcn:=h.cf.1.1;have hst:=pH (cG hN.bk) hx;rw [hxb,hx2] at hst
   have hg:zS (bU X (X.flows.getD i Fl.zero).backend.toNat true) ((bU X (X.flows.getD i Fl.zero).backend.toNat true).flows.getD i Fl.zero) { X.flows.getD i Fl.zero with backend:=b,retries:=(X.flows.getD i Fl.zero).retries+1,due:=X.now+X.cf.connect } X.cf.connect:=
    ⟨rfl,rfl,rfl,rfl,by omega,by omega,by simp only;omega,by simp only [bU];omega,Or.inl hst⟩
   have h0:0≤X.tok - X.cf.bd:=by omega
   have h1:X.tok - X.cf.bd≤X.cf.bb*X.cf.bd:=by omega
   by_cases e:(X.flows.getD i Fl.zero).backend=b
   ·rw [if_pos e];exact sO hN hi hg h0 h1 e.symm
   ·rw [if_neg e];exact lI (wY hN hi hg h0 h1)
theorem rQ {α:Type} {L:List α} {i:Nat} (h:i<L.length) {d x:α} (hx:L.getD i d=x):L.set i x=L:=by
 rw [aN h] at hx;subst hx;exact List.set_getElem_self h
theorem vV {X:Wd} (h:GwMay X) {i:Nat} (hi:i<X.flows.length):GwMay (mD X i):=by
 have hfm:=h.at_ hi;have hff:=h.fl _ hfm;have h0:=hff.s0;have h1:=hff.s1;have hcn:=h.cf.1.1;have hr0:=hff.r0;have hr1:=hff.r1;have hg:zS X (X.flows.getD i Fl.zero) { X.flows.getD i Fl.zero with due:=X.now+X.cf.idle } X.cf.idle:=⟨rfl,rfl,rfl,rfl,by omega,by omega,hr0,hr1,hff.st⟩;have hM:=sO h hi hg h.t0 h.t1 rfl
 have e:sP X i { X.flows.getD i Fl.zero with due:=X.now+X.cf.idle } X.cf.idle X.tok=mD X i:=by
  unfold sP mD;simp only;rw [rQ (d:=Sl.zero) (by omega) hff.sl]
 rw [← e];exact hM
theorem pN {X:Wd} (h:GwMay X) {i:Nat} (hi:i<X.flows.length):GwMay (iV X i):=by
 have ha:=qS h.so hi;unfold iV;generalize hA:X.flows.take i=A at ha;generalize hB:X.flows.drop (i+1)=B at ha;generalize hf:X.flows.getD i Fl.zero=f at ha ⊢;have hfm:f∈X.flows:=ha.mem.2 (Or.inl rfl);have hff:=h.fl f hfm;have hset:=ha.set { f with serving:=true }
 have hmem:∀ k,k∈A++{ f with serving:=true } :: B↔k={ f with serving:=true }∨k∈A++B:=by
  intro k;exact Q77
 rw [hset];refine { cf:=h.cf,n0:=h.n0,n1:=h.n1,tb:=h.tb,tl:=h.tl,bk:=h.bk,hl:=h.hl,ht:=h.ht,ho:=h.ho,t0:=h.t0,t1:=h.t1,rg:=h.rg,wn:=h.wn,wl:=?_,so:=ha.so' h.so rfl,fl:=fun k hk=>?_,us:=?_,dr:=?_,si:=h.si }
 ·simp only;rw [h.wl,ha.eq]
  have e:ej X.now (A++{ f with serving:=true } :: B)=ej X.now (A++f :: B):=by
   rw [show A++{ f with serving:=true } :: B=A++([{ f with serving:=true }]++B) from rfl,show A++f :: B=A++([f]++B) from rfl,fT,fT,fT,fT]
   congr 2
   unfold ej;by_cases hd:X.now<f.due
   ·simp [hd,nc]
   ·simp [hd]
  rw [e]
 ·have hk':k={ f with serving:=true }∨k∈A++B:=(hmem k).1 hk;rcases hk' with rfl|hk'
  ·exact ⟨hff.s0,hff.s1,hff.sl,hff.r0,hff.r1,hff.st,hff.d0,hff.d1⟩
  ·have h2:=h.fl k (ha.mem.2 (Or.inr hk'));exact ⟨h2.s0,h2.s1,h2.sl,h2.r0,h2.r1,h2.st,h2.d0,h2.d1⟩
 ·intro s hs hu;obtain ⟨k,hk,hks⟩:=h.us s hs hu;rcases ha.mem.1 hk with rfl|hk
  ·exact ⟨_,(hmem _).2 (Or.inl rfl),hks⟩
  ·exact ⟨k,(hmem _).2 (Or.inr hk),hks⟩
 ·intro x hx h3;obtain ⟨k,hk,hkb⟩:=h.dr x hx h3;rcases ha.mem.1 hk with rfl|hk
  ·exact ⟨_,(hmem _).2 (Or.inl rfl),hkb⟩
  ·exact ⟨k,(hmem _).2 (Or.inr hk),hkb⟩
theorem DL {X:Wd} (h:GwMay X) (e:Ev):GwMay (fj X e).1:=by
 unfold fj;by_cases hc:ub X.tab e.slot e.gen≠0
 ·rw [if_pos hc];exact h
 ·rw [if_neg hc];obtain ⟨_,hi,_,_⟩:=yz h (Decidable.not_not.1 hc);by_cases h3:e.kind=3
  ·rw [if_pos h3];exact mN h hi _ _
  ·rw [if_neg h3];by_cases h2:e.kind=2
   ·rw [if_pos h2];simp only;by_cases hs:(X.flows.getD (eY X e.slot) Fl.zero).serving=true
    ·rw [if_pos hs];exact vV h hi
    ·rw [if_neg hs];exact h
   ·rw [if_neg h2];by_cases hs:(X.flows.getD (eY X e.slot) Fl.zero).serving=true
    ·rw [if_pos hs];exact h
    ·rw [if_neg hs];by_cases hg:e.good=true
     ·rw [if_pos hg];have hfm:=h.at_ hi;obtain ⟨q,q1,q2,q3,q4,q5,q6,q7,q8,q9⟩:=h.num hfm;have hs':=pN h hi;have hN:=hs'.noted (b:=(X.flows.getD (eY X e.slot) Fl.zero).backend.toNat) (by omega) false;exact vV hN (by simpa [bU,iV] using hi)
     ·rw [if_neg hg];exact wI h hi _
theorem DQ {P:Wd×List Out} (h:GwMay P.1) {slot:Int} (hf:gF P.1 slot):GwMay (lX P slot).1:=by
 unfold lX;by_cases hs:(P.1.flows.getD (eY P.1 slot) Fl.zero).serving=true
 ·rw [if_pos hs];exact mN h hf.2 6 1
 ·rw [if_neg hs];exact wI h hf.2 _
theorem DV {P:Wd×List Out} (h:GwMay P.1) {slot:Int} (hf:gF P.1 slot):GwMay (oQ P slot).1:=mN h hf.2 6 2
theorem mH {X:Wd} (_:GwMay X) {slot:Int} (hf:∃ f∈X.flows,f.slot=slot):gF X slot:=by
 obtain ⟨f,hf,hs⟩:=hf;rcases bJ (mK slot) X.flows Fl.zero with ⟨_,hn⟩|⟨i,hi,he,_⟩
 ·have:=hn f hf;simp [mK,hs] at this
 ·have ha:eY X slot=i:=by unfold eY;rw [he];simp
  unfold gF;rw [ha];exact ⟨he,hi⟩
structure WdMay (X:Wd):Prop where
 gw:GwMay X
 du:∀ f∈X.flows,X.now<f.due
 un:∀ x∈X.lives,x.state=3→X.now<x.until_
theorem uF:∀ (Y:List Int) (P:Wd),Y.foldl gp P={ P with ring:=(Y.foldl gp P).ring,health:=(Y.foldl gp P).health }
 | [],_=>rfl
 | y :: Y,P=>by rw [List.foldl_cons,uF Y (gp P y)];rfl
theorem pu (i:Nat):∀ (Y:List Int) (P:Wd),(Y.foldl gp P).health.getD i Ht.zero=P.health.getD i Ht.zero∨(Y.foldl gp P).health.getD i Ht.zero=Ht.zero
 | [],_=>Or.inl rfl
 | y :: Y,P=>by
  rw [List.foldl_cons];rcases pu i Y (gp P y) with e|e
  ·rw [e];unfold gp;simp only;by_cases hy:y.toNat<P.health.length
   ·rw [cO hy];by_cases e2:y.toNat=i
    ·rw [if_pos e2];exact Or.inr rfl
    ·rw [if_neg e2];exact Or.inl rfl
   ·rw [List.set_eq_of_length_le (by omega)];exact Or.inl rfl
  ·exact Or.inr e
theorem lG (X:Wd):cu X={ bM X with ring:=(cu X).ring,health:=(cu X).health }:=uF _ _
theorem uE:∀ (Y:List Int) (P:Wd),(Y.foldl gp P).health.length=P.health.length
 | [],_=>rfl
 | y :: Y,P=>by rw [List.foldl_cons,uE Y (gp P y)];simp [gp]
theorem uM (X:Wd):(cu X).health.length=X.health.length:=uE _ _
theorem DB {c:Cf} {h:Ht} {now:Int} (hw:i7 c.ww c.wf c.wh) (h0:0≤now) (h1:now≤1099511627776) (hk:rK c.ww h.marks.length h.out h.until_ h.times):ge c.ww c.wf c.wh h.marks.length h.out h.until_ h.times now 0:=Or.inr (Or.inr (Or.inr ⟨hw,h0,h1,hk,rfl⟩))
theorem zC {a:Int} (h:0≤a):rK a Ht.zero.marks.length Ht.zero.out Ht.zero.until_ Ht.zero.times:=⟨h,by decide,by decide,by decide,by decide,fun _=>rfl⟩
theorem pE {X:Wd} (h:GwMay X) {i:Nat} (hi:i<12):rK X.cf.ww ((cu X).health.getD i Ht.zero).marks.length ((cu X).health.getD i Ht.zero).out ((cu X).health.getD i Ht.zero).until_ ((cu X).health.getD i Ht.zero).times:=by
 obtain ⟨h1,h2,h3,h4⟩:=fC (h.ht i hi);rcases pu i (ds X) (bM X) with e|e
 ·unfold cu;rw [e];exact h4
 ·unfold cu;rw [e];exact zC (by have:=h1.1;omega)
theorem Fc {X:Wd} (h:GwMay X) (hn:X.now<1099511626776) {i:Nat} (hi:i<12):ge X.cf.ww X.cf.wf X.cf.wh ((cu X).health.getD i Ht.zero).marks.length ((cu X).health.getD i Ht.zero).out ((cu X).health.getD i Ht.zero).until_ ((cu X).health.getD i Ht.zero).times (X.now+1) 0:=
 DB h.cf.2.2 (by have:=h.n0;omega) (by omega) (pE h hi)
theorem wU {a now:Int} {h:Ht} (hk:rK a h.marks.length h.out h.until_ h.times):rK a (fI now h).marks.length (fI now h).out (fI now h).until_ (fI now h).times∧((fI now h).out=true→now<(fI now h).until_):=by
 obtain ⟨a1,a2,a3,a4,a5,a6⟩:=hk;unfold fI;by_cases hc:h.out=true∧h.until_≤now
 ·rw [if_pos hc];exact ⟨⟨a1,a2,a3,Int.le_refl 0,(by decide:(0:Int)≤1099511628276),fun _=>rfl⟩,by simp⟩
 ·rw [if_neg hc];exact ⟨⟨a1,a2,a3,a4,a5,a6⟩,fun ho=>by rw [ho] at hc;simp at hc;exact hc⟩
theorem kx {α β:Type} (f:α→β) {L:List α} {i:Nat} (h:i<L.length) (d:α) (e:β):(L.map f).getD i e=f (L.getD i d):=by
 rw [aN (by simpa using h),aN h,List.getElem_map]
theorem Cb {X:Wd} (h:GwMay X):(X.lists.flatten.filter fun t=>decide (X.now+1<t.at_)).Perm (ej (X.now+1) X.flows):=by
 refine (h.whp.filter _).trans ?_;unfold ej;rw [List.filter_map,List.filter_filter];refine List.Perm.of_eq (congrArg _ (List.filter_congr fun f _=>?_));simp only [Function.comp,nc];by_cases h1:X.now+1<f.due
 ·simp [h1];omega
 ·simp [h1]
theorem Ai {X:Wd} (h:WdMay X) (hn:X.now<1099511626776):GwMay (iU X):=by
 have g:=h.gw;have n0:=g.n0
 have hl1:(cu X).health.length=12:=by rw [uM];exact g.hl
 have hf:=lG X
 have hlv:(cu X).lives=X.lives.map (Lf.wk (X.now+1)):=by rw [hf];rfl
 have hrg:=xE g;rw [hlv] at hrg
 have e:iU X={ bM X with ring:=(cu X).ring,health:=(cu X).health.map (fI (X.now+1)) }:=by
  unfold iU
  have hnow:(cu X).now=X.now+1:=by rw [hf];rfl
  rw [hnow]
  conv=>lhs;rw [hf]
 rw [e]
 have hst:∀ {b:Int},gL X.lives b=2∨gL X.lives b=3→gL (X.lives.map (Lf.wk (X.now+1))) b=2∨gL (X.lives.map (Lf.wk (X.now+1))) b=3:=by
  intro b hb;rw [stB_wk,if_neg (by omega)];exact hb
 refine { cf:=g.cf,n0:=by simp only [bM];omega,n1:=by simp only [bM];omega,tb:=g.tb,tl:=g.tl,bk:=E9 (by omega) (by omega) g.bk,hl:=by simpa using hl1,ht:=?_,ho:=?_,t0:=g.t0,t1:=g.t1,rg:=hrg,wn:=rfl,wl:=fF (Cb g),so:=g.so,fl:=fun f hfm=>?_,us:=g.us,dr:=?_,si:=?_ }
 ·intro i hi;simp only;rw [kx _ (by omega) Ht.zero];exact DB g.cf.2.2 (by simp only [bM];omega) (by simp only [bM];omega) (wU (pE g hi)).1
 ·intro i hi;simp only;rw [kx _ (by omega) Ht.zero];exact (wU (pE g hi)).2
 ·have h2:=g.fl f hfm;have h3:=h.du f hfm;have d1:=h2.d1;exact ⟨h2.s0,h2.s1,h2.sl,h2.r0,h2.r1,hst h2.st,by simp only [bM];omega,by simp only [bM];omega⟩
 ·intro x hx h3;obtain ⟨y,hy,rfl⟩:=It.1 (show x∈X.lives.map (Lf.wk (X.now+1)) from hx)
  have hy3:y.state=3:=by
   unfold Lf.wk at h3;by_cases e1:y.state=1
   ·rw [if_pos e1] at h3;exact absurd h3 (by simp)
   ·rw [if_neg e1] at h3;exact h3
  obtain ⟨f,hfm,hfb⟩:=g.dr y hy hy3;exact ⟨f,hfm,by rw [yW];exact hfb⟩
 ·intro x hx;obtain ⟨y,hy,rfl⟩:=It.1 (show x∈X.lives.map (Lf.wk (X.now+1)) from hx);have:=g.si y hy;unfold Lf.wk;simp only [bM];by_cases e1:y.state=1
  ·rw [if_pos e1];simp
  ·rw [if_neg e1];omega
theorem DM {L:List Lf} {b:Int} {x:Lf} (h:x∈jY L b):x∈L∨x.state=4:=by
 unfold jY at h
 cases e:L.findIdx? (cE b) with
 | none=>rw [e] at h;exact Or.inl h
 | some i=>
  rw [e] at h;rcases List.mem_or_eq_of_mem_set h with h|rfl
  ·exact Or.inl h
  ·exact Or.inr rfl
theorem jw (X:Wd) (b:Int):∃ L,(bZ X b).1={ X with lives:=L }∧(∀ x∈L,x.state=3→x∈X.lives)∧(bZ X b).2.length≤1:=by
 unfold bZ
 cases dt X.lives b with
 | none=>exact ⟨X.lives,rfl,fun _ h _=>h,by simp⟩
 | some x=>
  simp only;by_cases hc:x.state=3∧iX X.tab b X.tab.length=[]
  ·rw [if_pos hc];refine ⟨jY X.lives b,rfl,fun y hy h3=>?_,by simp⟩;rcases DM hy with h|h
   ·exact h
   ·omega
  ·rw [if_neg hc];exact ⟨X.lives,rfl,fun _ h _=>h,by simp⟩
structure StepS (P Q:Wd×List Out) (s:Int):Prop where
 now:Q.1.now=P.1.now
 fl:∀ f∈Q.1.flows,(f∈P.1.flows∧f.slot≠s)∨P.1.now<f.due
 ke:∀ f∈P.1.flows,f.slot≠s→f∈Q.1.flows
 lv:∀ x∈Q.1.lives,x.state=3→x∈P.1.lives
 ou:Q.2.length≤P.2.length+2
structure CutAns (P Q:Wd×List Out) (s:Int):Prop where
 now:Q.1.now=P.1.now
 fl:∀ f,f∈Q.1.flows↔f∈P.1.flows∧f.slot≠s
 lv:∀ x∈Q.1.lives,x.state=3→x∈P.1.lives
 ou:Q.2.length≤P.2.length+2
 ln:Q.1.flows.length+1=P.1.flows.length
theorem CutAns.step {P Q:Wd×List Out} {s:Int} (h:CutAns P Q s):StepS P Q s:=⟨h.now,fun f hf=>Or.inl ((h.fl f).1 hf),fun f hf hs=>(h.fl f).2 ⟨hf,hs⟩,h.lv,h.ou⟩
theorem qG {X:Wd} {s:Int} (h:gF X s):(X.flows.getD (eY X s) Fl.zero).slot=s:=by
 rcases bJ (mK s) X.flows Fl.zero with ⟨e,_⟩|⟨i,hi,e,hp,_⟩
 ·have:=h.1;omega
 ·have:=h.1;have:eY X s=i:=by omega
  rw [this];simpa [mK] using hp
theorem mM {X:Wd} (h:GwMay X) {s:Int} (hf:gF X s) (O:List Out) (k y:Int):CutAns (X,O) ((gQ X (eY X s) k y).1,O++(gQ X (eY X s) k y).2) s:=by
 have ha:=qS h.so hf.2;have hs:=qG hf
 have hm:∀ g,g∈X.flows.take (eY X s)++X.flows.drop (eY X s+1)↔g∈X.flows∧g.slot≠s:=by
  intro g;constructor
  ·intro hg;have:=ha.ne g hg;rw [hs] at this;exact ⟨ha.mem.2 (Or.inr hg),this⟩
  ·rintro ⟨hg,hne⟩;rcases ha.mem.1 hg with rfl|hg
   ·exact absurd hs hne
   ·exact hg
 unfold gQ;obtain ⟨L,e,hL,ho⟩:=jw (jq X (eY X s) (eK X.tab (X.flows.getD (eY X s) Fl.zero))) (X.flows.getD (eY X s) Fl.zero).backend;refine ⟨?_,fun f=>?_,?_,?_,?_⟩
 ·simp only;rw [e]
  rfl
 ·simp only;rw [e];exact hm f
 ·simp only;rw [e];exact hL
 ·simp only [Ic,List.length_cons];omega
 ·simp only;rw [e];simp only [jq,Ic,Ii,List.length_drop];have:=hf.2;omega
theorem sH {X:Wd} (h:GwMay X) {s:Int} (hf:gF X s) (O:List Out) (why:Int):StepS (X,O) ((eU X (eY X s) why).1,O++(eU X (eY X s) why).2) s:=by
 have ha:=qS h.so hf.2;have hs:=qG hf;have hfm:=h.at_ hf.2;obtain ⟨q,q1,q2,q3,q4,q5,q6,q7,q8,q9⟩:=h.num hfm;have hN:=h.noted (b:=(X.flows.getD (eY X s) Fl.zero).backend.toNat) (by omega) true;have hfN:gF (bU X (X.flows.getD (eY X s) Fl.zero).backend.toNat true) s:=hf
 have hE:∀ k y,StepS (X,O) ((gQ (bU X (X.flows.getD (eY X s) Fl.zero).backend.toNat true) (eY X s) k y).1,O++(gQ (bU X (X.flows.getD (eY X s) Fl.zero).backend.toNat true) (eY X s) k y).2) s:=by
  intro k y;have h1:=(mM hN hfN O k y).step;exact ⟨h1.now,h1.fl,h1.ke,h1.lv,h1.ou⟩
 have hcn:=h.cf.1.1;unfold eU;simp only;by_cases hc:(X.flows.getD (eY X s) Fl.zero).retries=X.cf.retries∨X.tok<X.cf.bd
 ·rw [if_pos hc];exact hE _ _
 ·rw [if_neg hc];by_cases hp:(dC (bU X (X.flows.getD (eY X s) Fl.zero).backend.toNat true) (X.flows.getD (eY X s) Fl.zero).key.toNat (X.flows.getD (eY X s) Fl.zero).slot).2≠0
  ·rw [if_pos hp];exact hE _ _
  ·rw [if_neg hp];generalize (dC (bU X (X.flows.getD (eY X s) Fl.zero).backend.toNat true) (X.flows.getD (eY X s) Fl.zero).key.toNat (X.flows.getD (eY X s) Fl.zero).slot).1=b
   have hM:∀ L,(∀ x∈L,x.state=3→x∈X.lives)→∀ O',O'.length≤1→StepS (X,O) ({ iJ (bU X (X.flows.getD (eY X s) Fl.zero).backend.toNat true) (eY X s) b with lives:=L },O++⟨5,(X.flows.getD (eY X s) Fl.zero).slot,(X.flows.getD (eY X s) Fl.zero).gen,b,0,0,0⟩ :: O') s:=by
    intro L hL O' hO';have hset:=fun g=>ha.set g;refine ⟨rfl,fun f hfl=>?_,fun f hfl hne=>?_,hL,by simp only [Ic,List.length_cons];omega⟩
    ·simp only [iJ,bU] at hfl;rw [hset] at hfl;simp only [List.mem_append,List.mem_cons] at hfl;rcases hfl with g|rfl|g
     ·have:=ha.ne f (List.mem_append_left _ g);rw [hs] at this;exact Or.inl ⟨ha.mem.2 (Or.inr (List.mem_append_left _ g)),this⟩
     ·refine Or.inr ?_;simp only;omega
     ·have:=ha.ne f (List.mem_append_right _ g);rw [hs] at this;exact Or.inl ⟨ha.mem.2 (Or.inr (List.mem_append_right _ g)),this⟩
    ·simp only [iJ,bU];rw [hset];simp only [List.mem_append,List.mem_cons];rcases ha.mem.1 hfl with rfl|g
     ·exact absurd hs hne
     ·rcases List.mem_append.1 g with g|g
      ·exact Or.inl g
      ·exact Or.inr (Or.inr g)
   by_cases e:(X.flows.getD (eY X s) Fl.zero).backend=b
   ·rw [if_pos e];exact hM X.lives (fun _ h _=>h) [] (by simp)
   ·rw [if_neg e];obtain ⟨L,e2,hL,ho⟩:=jw (iJ (bU X (X.flows.getD (eY X s) Fl.zero).backend.toNat true) (eY X s) b) (X.flows.getD (eY X s) Fl.zero).backend;rw [e2];exact hM L hL _ ho
theorem DO {P:Wd×List Out} (h:GwMay P.1) {s:Int} (hf:gF P.1 s):StepS P (lX P s) s:=by
 unfold lX;by_cases hs:(P.1.flows.getD (eY P.1 s) Fl.zero).serving=true
 ·rw [if_pos hs];exact (mM h hf P.2 6 1).step
 ·rw [if_neg hs];exact sH h hf P.2 5
theorem DT {P:Wd×List Out} (h:GwMay P.1) {s:Int} (hf:gF P.1 s):CutAns P (oQ P s) s:=mM h hf P.2 6 2
structure yP (P Q:Wd×List Out) (S:List Int):Prop where
 gw:GwMay Q.1
 now:Q.1.now=P.1.now
 fl:∀ f∈Q.1.flows,(f∈P.1.flows∧f.slot∉S)∨P.1.now<f.due
 ke:∀ f∈P.1.flows,f.slot∉S→f∈Q.1.flows
 lv:∀ x∈Q.1.lives,x.state=3→x∈P.1.lives
 ou:Q.2.length≤P.2.length+2*S.length
theorem wJ:∀ (S:List Int) (P:Wd×List Out),GwMay P.1→S.Nodup→(∀ s∈S,∃ f∈P.1.flows,f.slot=s)→yP P (S.foldl lX P) S
 | [],P,h,_,_=>⟨h,rfl,fun f hf=>Or.inl ⟨hf,by simp⟩,fun f hf _=>hf,fun _ h _=>h,by simp⟩
 | s :: S,P,h,hn,hS=>by
  rw [List.nodup_cons] at hn;have hf:=mH h (hS s (Im ..));have h1:=DO h hf
  have h2:=wJ S (lX P s) (DQ h hf) hn.2 (fun t ht=>by
   obtain ⟨f,hfm,hfs⟩:=hS t (Ip _ ht)
   exact ⟨f,h1.ke f hfm (fun e=>hn.1 (by rw [← e,hfs];exact ht)),hfs⟩)
  rw [List.foldl_cons];refine ⟨h2.gw,h2.now.trans h1.now,fun f hfm=>?_,fun f hfm hns=>?_,fun x hx h3=>h1.lv x (h2.lv x hx h3) h3,?_⟩
  ·rcases h2.fl f hfm with ⟨g1,g2⟩|g
   ·rcases h1.fl f g1 with ⟨g3,g4⟩|g3
    ·exact Or.inl ⟨g3,by simp [g4,g2]⟩
    ·exact Or.inr g3
   ·rw [h1.now] at g;exact Or.inr g
  ·simp only [List.mem_cons,not_or] at hns;exact h2.ke f (h1.ke f hfm hns.1) hns.2
  ·have:=h2.ou;have:=h1.ou;simp only [List.length_cons];omega
structure zX (P Q:Wd×List Out) (S:List Int):Prop where
 gw:GwMay Q.1
 now:Q.1.now=P.1.now
 fl:∀ f,f∈Q.1.flows↔f∈P.1.flows∧f.slot∉S
 lv:∀ x∈Q.1.lives,x.state=3→x∈P.1.lives
 ou:Q.2.length+2*Q.1.flows.length≤P.2.length+2*P.1.flows.length
theorem wL:∀ (S:List Int) (P:Wd×List Out),GwMay P.1→S.Nodup→(∀ s∈S,∃ f∈P.1.flows,f.slot=s)→zX P (S.foldl oQ P) S
 | [],P,h,_,_=>⟨h,rfl,fun f=>by simp,fun _ h _=>h,by simp⟩
 | s :: S,P,h,hn,hS=>by
  rw [List.nodup_cons] at hn;have hf:=mH h (hS s (Im ..));have h1:=DT h hf
  have h2:=wL S (oQ P s) (DV h hf) hn.2 (fun t ht=>by
   obtain ⟨f,hfm,hfs⟩:=hS t (Ip _ ht)
   exact ⟨f,(h1.fl f).2 ⟨hfm,(fun e=>hn.1 (by rw [← e,hfs];exact ht))⟩,hfs⟩)
  rw [List.foldl_cons];refine ⟨h2.gw,h2.now.trans h1.now,fun f=>?_,fun x hx h3=>h1.lv x (h2.lv x hx h3) h3,?_⟩
  ·rw [h2.fl,h1.fl];simp only [List.mem_cons,not_or];constructor
   ·rintro ⟨⟨a,b⟩,c⟩;exact ⟨a,b,c⟩
   ·rintro ⟨a,b,c⟩;exact ⟨⟨a,b⟩,c⟩
  ·have:=h2.ou;have:=h1.ou;have:=h1.ln;omega
theorem tQ {X:Wd} (h:GwMay X) {s:Int}:s∈eN X↔∃ f∈X.flows,f.due=X.now+1∧f.slot=s:=by
 unfold eN;rw [((di _).map Tm.id).mem_iff,((h.whp.filter _).map Tm.id).mem_iff];constructor
 ·intro g;obtain ⟨t,ht,rfl⟩:=It.1 g;obtain ⟨ht,hd⟩:=List.mem_filter.1 ht;obtain ⟨f,hf,rfl⟩:=It.1 ht;exact ⟨f,(List.mem_filter.1 hf).1,by simpa [nc] using hd,rfl⟩
 ·rintro ⟨f,hf,hd,rfl⟩;exact It.2 ⟨nc f,List.mem_filter.2 ⟨It.2 ⟨f,List.mem_filter.2 ⟨hf,by simp;omega⟩,rfl⟩,by simp [nc,hd]⟩,rfl⟩
theorem sg {X:Wd} (h:GwMay X):(eN X).Nodup:=by
 unfold eN;rw [((di _).map Tm.id).nodup_iff,((h.whp.filter _).map Tm.id).nodup_iff];exact (List.filter_sublist.map Tm.id).nodup h.tms.2
theorem CU {X:Wd} (h:GwMay X):(eN X).length≤40:=by
 have h1:=vz X;have h2:=h.whp.length_eq;exact Q122
theorem k9 (X:Wd):(iU X).flows=X.flows∧(iU X).now=X.now+1∧(iU X).lives=X.lives.map (Lf.wk (X.now+1)):=by
 have hf:=lG X;unfold iU;simp only;rw [hf];exact ⟨rfl,rfl,rfl⟩
theorem qs {L:List Int} (h:L.Nodup) {k:Nat} (hk:k<L.length):L.getD k 0∉L.take k:=by
 intro g;obtain ⟨j,hj,e⟩:=List.mem_iff_getElem.1 g;rw [Ii] at hj;rw [aN hk,List.getElem_take] at e;exact List.pairwise_iff_getElem.1 (List.nodup_iff_pairwise_ne.1 h) j k (by omega) hk (by omega) e
theorem DP {X:Wd} (h:WdMay X) (hn:X.now<1099511626776) (k:Nat):yP (iU X,[]) (fU X k) ((eN X).take k):=by
 refine wJ _ _ (Ai h hn) ((List.take_sublist _ _).nodup (sg h.gw)) fun s hs=>?_;obtain ⟨f,hf,_,hfs⟩:=(tQ h.gw).1 (List.mem_of_mem_take hs);exact ⟨f,by rw [(k9 X).1];exact hf,hfs⟩
theorem mO {X:Wd} (h:WdMay X) (hn:X.now<1099511626776):yP (iU X,[]) (bV X) (eN X):=by
 have:=DP h hn (eN X).length;unfold fU at this;rw [jo,List.take_length] at this;exact this
theorem nk {X:Wd} (h:GwMay X) {b s:Int}:s∈dK X.tab b↔∃ f∈X.flows,f.backend=b∧f.slot=s:=by
 unfold dK;constructor
 ·intro g;obtain ⟨x,hx,rfl⟩:=It.1 g;obtain ⟨k,hk,hu,hb,rfl⟩:=iW.1 hx;obtain ⟨f,hf,hs⟩:=h.us k hk hu;refine ⟨f,hf,?_,hs⟩;exact Q164
 ·rintro ⟨f,hf,rfl,rfl⟩;have h1:=h.fl f hf;have h0:=h1.s0;have h2:=h1.s1;refine It.2 ⟨⟨f.slot.toNat,(X.tab.getD f.slot.toNat Sl.zero).gen⟩,iW.2 ⟨f.slot.toNat,by omega,by rw [h1.sl],by rw [h1.sl],rfl⟩,by simp only;omega⟩
theorem sj (T:List Sl) (b:Int):∀ n,((iX T b n).map Hd.slot).Nodup
 | 0=>by simp [iX]
 | n+1=>by
  simp only [iX,Ir];rw [List.nodup_append];refine ⟨sj T b n,?_,?_⟩
  ·split<;>simp
  ·intro a ha c hc;obtain ⟨x,hx,rfl⟩:=It.1 ha;obtain ⟨k,hk,_,_,rfl⟩:=iW.1 hx;obtain ⟨y,hy,rfl⟩:=It.1 hc
   split at hy
   ·simp at hy;subst hy;simp;omega
   ·simp at hy
theorem nX (T:List Sl) (b:Int):(dK T b).Nodup:=sj T b _
theorem DU {P:Wd×List Out} (h:GwMay P.1) (b:Int) (j:Nat):zX P (mQ P b j) ((dK P.1.tab b).take j):=by
 refine wL _ _ h ((List.take_sublist _ _).nodup (nX _ _)) fun s hs=>?_;obtain ⟨f,hf,_,hfs⟩:=(nk h).1 (List.mem_of_mem_take hs);exact ⟨f,hf,hfs⟩
structure zW (P Q:Wd×List Out) (L:List Lf):Prop where
 gw:GwMay Q.1
 now:Q.1.now=P.1.now
 fl:∀ f∈Q.1.flows,f∈P.1.flows
 lv:∀ x∈Q.1.lives,x.state=3→x∈P.1.lives
 ou:Q.2.length+2*Q.1.flows.length≤P.2.length+2*P.1.flows.length
 no:∀ x∈L,x.state=3→x.until_≤P.1.now→∀ f∈Q.1.flows,f.backend≠x.backend
theorem Bs {P:Wd×List Out} (h:GwMay P.1) (x:Lf):zW P (gb P x) [x]:=by
 unfold gb;by_cases hc:x.state≠3∨P.1.now<x.until_
 ·rw [if_pos hc];refine ⟨h,rfl,fun _ h=>h,fun _ h _=>h,I3 _,fun y hy h3 hu=>?_⟩;simp only [List.mem_singleton] at hy;subst hy;omega
 ·rw [if_neg hc];have h1:=DU h x.backend (dK P.1.tab x.backend).length;unfold mQ at h1;rw [jo,List.take_length] at h1;refine ⟨h1.gw,h1.now,fun f hf=>((h1.fl f).1 hf).1,h1.lv,h1.ou,fun y hy h3 hu f hf e=>?_⟩;simp only [List.mem_singleton] at hy;subst hy;have h2:=(h1.fl f).1 hf;exact h2.2 ((nk h).2 ⟨f,h2.1,e,rfl⟩)
theorem lY:∀ (L:List Lf) (P:Wd×List Out),GwMay P.1→zW P (L.foldl gb P) L
 | [],P,h=>⟨h,rfl,fun _ h=>h,fun _ h _=>h,I3 _,fun _ hx=>by simp at hx⟩
 | x :: L,P,h=>by
  have h1:=Bs h x;have h2:=lY L (gb P x) h1.gw;rw [List.foldl_cons];refine ⟨h2.gw,h2.now.trans h1.now,fun f hf=>h1.fl f (h2.fl f hf),fun y hy h3=>h1.lv y (h2.lv y hy h3) h3,Iq h2.ou h1.ou,fun y hy h3 hu f hf=>?_⟩;rcases List.mem_cons.1 hy with rfl|hy
  ·exact h1.no y (Im ..) h3 hu f (h2.fl f hf)
  ·exact h2.no y hy h3 (by rw [h1.now];exact hu) f hf
theorem Fa {X:Wd} (h:WdMay X) (hn:X.now<1099511626776) (k:Nat):zW (bV X) (dX X k) ((bV X).1.lives.take k):=lY _ _ (mO h hn).gw
theorem uL {X:Wd} (h:WdMay X) (hn:X.now<1099511626776):zW (bV X) (jc X) (bV X).1.lives:=lY _ _ (mO h hn).gw
theorem F3 {X:Wd} (h:WdMay X) (hn:X.now<1099511626776):(bV X).2.length+2*(bV X).1.flows.length≤160:=by
 have h1:=mO h hn;have h2:=h1.ou;have h3:=CU h.gw;have h4:=h1.gw.len;simp only [List.length_nil] at h2;omega
theorem zd {X:Wd} (h:WdMay X) (hn:X.now<1099511626776):WdMay (jc X).1∧(jc X).1.now=X.now+1:=by
 have h1:=mO h hn;have h2:=uL h hn;have h3:=k9 X;have e3:(bV X).1.now=X.now+1:=h1.now.trans h3.2.1;have e4:(jc X).1.now=X.now+1:=h2.now.trans e3;refine ⟨⟨h2.gw,fun f hf=>?_,fun x hx hs=>?_⟩,e4⟩
 ·rw [e4];rcases h1.fl f (h2.fl f hf) with ⟨g1,g2⟩|g
  ·rw [h3.1] at g1;have d1:=h.du f g1;have d2:f.due≠X.now+1:=fun e=>g2 ((tQ h.gw).2 ⟨f,g1,e,rfl⟩);omega
  ·simp only at g;rw [h3.2.1] at g;exact g
 ·rw [e4];refine Classical.byContradiction fun g=>?_;have hx3:=h2.lv x hx hs;obtain ⟨f,hf,hfb⟩:=h2.gw.dr x hx hs;exact h2.no x hx3 hs (by rw [e3];omega) f hf hfb
theorem xA {X:Wd} (h:bF X.lives X.reqs):(ds X).Nodup:=by
 rw [yT,List.nodup_iff_pairwise_ne,List.pairwise_map];exact ((cG h).filter _).imp fun {a b} hab=>by omega
theorem EL {L:List Lf} {R:List Rq} (h:bF L R) (b:Int):0≤oI L b∧oI L b≤8:=by
 unfold oI
 cases hl:dt L b with
 | none=>simp
 | some x=>
  have:=eO h (dz hl).1;simp only [Option.map_some,Iu];exact ⟨by have:=this.2.2.1;omega,this.2.2.2.1⟩
theorem F2 {X:Wd} (h:GwMay X) (hn:X.now<1099511626776) {k:Nat} (hk:k<(ds X).length):0≤(ds X).getD k 0∧(ds X).getD k 0≤11∧(∃ x,dt (bM X).lives ((ds X).getD k 0)=some x∧1≤x.weight∧x.weight≤8)∧RgMay (fD X k).ring∧(fD X k).lives=(bM X).lives∧(fD X k).health.length=12∧(gh (fD X k).ring).getD ((ds X).getD k 0).toNat 0=0:=by
 have n0:=h.n0;have hbk:bF (bM X).lives X.reqs:=E9 (by omega) (by omega) h.bk
 have hm:(ds X).getD k 0∈ds X:=by rw [aN hk];exact If hk
 have hbd:=sZ h.bk hm;have hs:=(mc h.bk).1 hm;have hno:=qs (xA h.bk) hk;generalize (ds X).getD k 0=y at hm hbd hs hno ⊢;have hW:=po ((ds X).take k) (bM X) (dM X.lives) (cB _) h.rg;have hl:(((ds X).take k).foldl (yS (bM X).lives) (dM X.lives)).length=12:=by rw [sX,cB]
 have hpos:∀ z∈(ds X).take k,0≤z:=fun z hz=>(sZ h.bk (List.mem_of_mem_take hz)).1;have hb12:y.toNat<12:=by omega
 have hyn:((y.toNat:Nat):Int)=y:=by omega
 have e:fD X k=((ds X).take k).foldl gp (bM X):=rfl;rw [← e] at hW;refine ⟨hbd.1,hbd.2,?_,?_,hW.2.1,?_,?_⟩
 ·obtain ⟨x,hx,rfl,hx1⟩:=mh hs (by decide);have hl1:=j4 (cG h.bk) hx;have hb1:=eO h.bk hx;refine ⟨Lf.wk (X.now+1) x,by show dt (X.lives.map (Lf.wk (X.now+1))) _=_;rw [pe,hl1];rfl,?_⟩
  have hw:(Lf.wk (X.now+1) x).weight=x.weight:=by unfold Lf.wk;by_cases g:x.state=1<;>simp [g]
  rw [hw];exact ⟨hb1.2.2.1,hb1.2.2.2.1⟩
 ·rw [hW.1];refine pP hl fun b=>?_;by_cases hb:b<12
  ·rw [oW _ hb _ _ (cB _) hpos]
   split
   ·have:=EL hbk b;omega
   ·exact zt h.bk b
  ·rw [show (((ds X).take k).foldl (yS (bM X).lives) (dM X.lives)).getD b 0=0 by simp only [List.getD];rw [Ik (by omega)];rfl];omega
 ·rw [hW.2.2];exact h.hl
 ·rw [hW.1,iE hl,oW _ hb12 _ _ (cB _) hpos,hyn,if_neg hno,ff _ hb12,hyn];unfold gL at hs
  cases hlf:dt X.lives y with
  | none=>rfl
  | some x=>
   rw [hlf] at hs;simp only [Option.map_some,Iu] at hs;simp only;rw [if_neg (by omega)]
theorem Cd {X:Wd} (h:WdMay X) (hn:X.now<1099511626776):zN X:=by
 have g:=h.gw;have n0:=g.n0;have ho:=F3 h hn;refine { wh:=g.wh,wn:=g.wn,n0:=n0,n1:=hn,bk:=g.bk,bk2:=E9 (by omega) (by omega) g.bk,hl:=g.hl,hl1:=by rw [uM];exact g.hl,wo:=fun k hk=>F2 g hn hk,ba:=fun i hi=>Fc g hn hi,du:=?_,b3:=(mO h hn).gw.bk,dr:=?_ }
 ·intro k hk;have h1:=DP h hn k
  have hm:(eN X).getD k 0∈eN X:=by rw [aN hk];exact If hk
  obtain ⟨f,hf,_,hfs⟩:=(tQ g).1 hm;have hno:=qs (sg g) hk;refine ⟨h1.gw,mH h1.gw ⟨f,h1.ke f (by rw [(k9 X).1];exact hf) (by rw [hfs];exact hno),hfs⟩,?_⟩;have h2:=h1.ou;have h3:=CU g;simp only [List.length_nil,Ii] at h2;omega
 ·intro k hk h3 hu;have h1:=Fa h hn k;have ho1:=h1.ou;refine ⟨h1.gw.tb,fun j hj=>?_⟩;have h2:=DU h1.gw ((bV X).1.lives.getD k Lf.zero).backend j
  have hm:(dK (dX X k).1.tab ((bV X).1.lives.getD k Lf.zero).backend).getD j 0∈dK (dX X k).1.tab ((bV X).1.lives.getD k Lf.zero).backend:=by rw [aN hj];exact If hj
  obtain ⟨f,hf,_,hfs⟩:=(nk h1.gw).1 hm;have hno:=qs (nX _ _) hj;refine ⟨h2.gw,mH h2.gw ⟨f,(h2.fl f).2 ⟨hf,by rw [hfs];exact hno⟩,hfs⟩,?_⟩;have ho2:=h2.ou;omega
end
end Go.Proofs.YtfliffgmeobclaaGreat
