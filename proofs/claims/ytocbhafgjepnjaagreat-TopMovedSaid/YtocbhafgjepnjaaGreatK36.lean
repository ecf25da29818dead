/- Texts of the row's proof. Conditions: none. -/
import Derived.Test.YtocbhafgjepnjaaGreatK35
namespace Go.Proofs.YtocbhafgjepnjaaGreat
set_option maxRecDepth 100000
set_option maxHeartbeats 8000000
section
open Go.RowKit
def bL (X:Wd):Wd:={ X with now:=X.now+1,wnow:=X.now+1,lists:=bJ (X.now+1) (X.lists.flatten.filter fun t=>decide (X.now+1<t.at_)),lives:=X.lives.map (Lf.wk (X.now+1)) }
def ey (X:Wd):List Int:=(ix (X.lists.flatten.filter fun t=>t.at_ == X.now+1)).map Tm.id
def dq (X:Wd):List Int:=lD X.lives X.lives.length
def oz (L:List Lf) (y:Int):Int:=((cW L y).map Lf.weight).getD 0
def gj (X:Wd) (y:Int):Wd:={ X with ring:=bN ((ge X.ring).set y.toNat (oz X.lives y).toNat),health:=X.health.set y.toNat Ht.zero }
def fx (X:Wd) (k:Nat):Wd:=((dq X).take k).foldl gj (bL X)
def cu (X:Wd):Wd:=(dq X).foldl gj (bL X)
theorem pl:∀ (L:List Int) (P:Wd),(L.foldl gj P).reqs=P.reqs∧(L.foldl gj P).cf=P.cf∧(L.foldl gj P).now=P.now
 | [],_=>⟨rfl,rfl,rfl⟩
 | y :: L,P=>pl L (gj P y)
theorem Gc {L:List Lf} {R:List Rq} {b:Int} {x:Lf} (h:bF L R) (hx:cW L b=some x):xp L R b x 0:=by
 rcases b8 (cq b) L Lf.zero with ⟨h1,_⟩|⟨i,hi,h1,_⟩
 ·rw [(fD L b).1 h1] at hx
  cases hx
 ·have:=(fD L b).2 i h1 hi;rw [hx] at this;exact Or.inr (Or.inr ⟨h,⟨i,hi,h1,Option.some.inj this⟩,rfl⟩)
def fE (now:Int) (h:Ht):Ht:=if h.out=true∧h.until_≤now then { h with out:=false,until_:=0 } else h
def gh (X:Wd) (k:Nat):Wd:={ X with health:=(X.health.take k).map (fE X.now)++X.health.drop k }
def fS (X:Wd):Wd:={ cu X with health:=(cu X).health.map (fE (cu X).now) }
def ja (P:Wd×List Out) (slot:Int):Wd×List Out:=
 if (P.1.flows.getD (eV P.1 slot) Fl.zero).serving=true then ((g9 P.1 (eV P.1 slot) 6 1).1,P.2++(g9 P.1 (eV P.1 slot) 6 1).2)
 else ((eu P.1 (eV P.1 slot) 5).1,P.2++(eu P.1 (eV P.1 slot) 5).2)
def fR (X:Wd) (k:Nat):Wd×List Out:=((ey X).take k).foldl ja (fS X,[])
def ca (X:Wd):Wd×List Out:=(ey X).foldl ja (fS X,[])
def lX (P:Wd×List Out) (slot:Int):Wd×List Out:=((g9 P.1 (eV P.1 slot) 6 2).1,P.2++(g9 P.1 (eV P.1 slot) 6 2).2)
def dt (T:List Sl) (b:Int):List Int:=(iO T b T.length).map Hd.slot
def eO (P:Wd×List Out) (x:Lf):Wd×List Out:=if x.state≠3∨P.1.now<x.until_ then P else (dt P.1.tab x.backend).foldl lX P
def dX (X:Wd) (k:Nat):Wd×List Out:=((ca X).1.lives.take k).foldl eO (ca X)
def gX (X:Wd):Wd×List Out:=(ca X).1.lives.foldl eO (ca X)
def mK (P:Wd×List Out) (b:Int) (j:Nat):Wd×List Out:=((dt P.1.tab b).take j).foldl lX P
theorem kR {α β:Type} (f:β→α→β) (b:β) (L:List α) (d:α) {k:Nat} (h:k<L.length):(L.take (k+1)).foldl f b=f ((L.take k).foldl f b) (L.getD k d):=by
 rw [Ir h,List.foldl_append,aK h]
 rfl
theorem js {α β:Type} (f:β→α→β) (b:β) (L:List α):(L.take L.length).foldl f b=L.foldl f b:=by rw [Iv (Ij _)]
theorem yH (X:Wd) {k:Nat} (h:k<X.health.length):(gh X (k+1)).health=(gh X k).health.set k (fE X.now (X.health.getD k Ht.zero)):=by
 unfold gh;simp only;rw [Ir h,aK h]
 have hl:((X.health.take k).map (fE X.now)).length=k:=by simp;omega
 have e:X.health.drop k=X.health[k] :: X.health.drop (k+1):=(List.getElem_cons_drop h).symm;rw [List.set_append_right k _ (by omega),hl,Nat.sub_self,e];simp only [IH,List.map_cons,List.map_nil,List.append_assoc,List.singleton_append,List.set_cons_zero]
theorem Eu (X:Wd) {k:Nat} (h:k<X.health.length):(gh X k).health.getD k Ht.zero=X.health.getD k Ht.zero:=by
 unfold gh;simp only
 have hl:((X.health.take k).map (fE X.now)).length=k:=by simp;omega
 simp only [List.getD];rw [IS (by omega),hl,Nat.sub_self,List.getElem?_drop];simp
theorem BN (X:Wd) (k:Nat):(gh X k).health.length=X.health.length:=by unfold gh;simp;omega
def gc (X:Wd) (sl:Int):Prop:=aN (mG sl) X.flows=(eV X sl:Int)∧eV X sl<X.flows.length
structure zT (X:Wd):Prop where
 wh:WhMay X.now X.lists
 wn:X.wnow=X.now
 n0:0≤X.now
 n1:X.now<1099511626776
 bk:bF X.lives X.reqs
 bk2:bF (bL X).lives X.reqs
 hl:X.health.length=12
 hl1:(cu X).health.length=12
 wo:∀ k,k<(dq X).length→0≤(dq X).getD k 0∧(dq X).getD k 0≤11∧(∃ x,cW (bL X).lives ((dq X).getD k 0)=some x∧1≤x.weight∧x.weight≤8)∧RgMay (fx X k).ring∧(fx X k).lives=(bL X).lives∧(fx X k).health.length=12∧(ge (fx X k).ring).getD ((dq X).getD k 0).toNat 0=0
 ba:∀ i,i<12→gb X.cf.ww X.cf.wf X.cf.wh ((cu X).health.getD i Ht.zero).marks.length ((cu X).health.getD i Ht.zero).out ((cu X).health.getD i Ht.zero).until_ ((cu X).health.getD i Ht.zero).times (X.now+1) 0
 du:∀ k,k<(ey X).length→GwMay (fR X k).1∧gc (fR X k).1 ((ey X).getD k 0)∧(fR X k).2.length≤1000
 b3:bF (ca X).1.lives (ca X).1.reqs
 dr:∀ k,k<(ca X).1.lives.length→((ca X).1.lives.getD k Lf.zero).state=3→((ca X).1.lives.getD k Lf.zero).until_≤(dX X k).1.now→dM (dX X k).1.tab∧∀ j,j<(dt (dX X k).1.tab ((ca X).1.lives.getD k Lf.zero).backend).length→
  GwMay (mK (dX X k) ((ca X).1.lives.getD k Lf.zero).backend j).1∧gc (mK (dX X k) ((ca X).1.lives.getD k Lf.zero).backend j).1 ((dt (dX X k).1.tab ((ca X).1.lives.getD k Lf.zero).backend).getD j 0)∧(mK (dX X k) ((ca X).1.lives.getD k Lf.zero).backend j).2.length≤1000
theorem zQ (c:Cf) (h:Ht) (now:Int) (h0:gb c.ww c.wf c.wh h.marks.length h.out h.until_ h.times now 0):∃ came,Ae c.ww c.wf c.wh h.marks h.out h.until_ h.times now (fE now h).marks (fE now h).out (fE now h).until_ (fE now h).times came 0:=by
 unfold fE;by_cases hc:h.out=true∧h.until_≤now
 ·rw [if_pos hc];exact ⟨true,h0,Or.inr (Or.inl ⟨rfl,hc.1,hc.2,rfl,rfl,rfl,rfl,rfl⟩)⟩
 ·rw [if_neg hc];refine ⟨false,h0,Or.inr (Or.inr ⟨rfl,?_,rfl,rfl,rfl,rfl,rfl⟩)⟩
  cases ho:h.out with
  | false=>exact Or.inl rfl
  | true=>exact Or.inr ⟨rfl,by rw [ho] at hc;simp at hc;exact hc⟩
theorem Et (X:Wd) {n:Nat} (h:X.health.length=n):gh X n={ X with health:=X.health.map (fE X.now) }:=by
 unfold gh;rw [← h];simp
theorem back_0 (X:Wd):gh X 0=X:=by unfold gh;simp
theorem C7 (X:Wd):(dq X).length≤X.lives.length:=by unfold dq lD;rw [Iq];exact IG (List.length_filter_le _ _) (List.length_take_le _ _)
theorem vx (X:Wd):(ey X).length≤X.lists.flatten.length:=by unfold ey;rw [Iq,(dg _).length_eq];exact List.length_filter_le _ _
theorem yX (now:Int) (x:Lf):(Lf.wk now x).backend=x.backend:=by unfold Lf.wk;by_cases h:x.state=1<;>simp [h]
theorem mt (now b:Int):∀ L:List Lf,cW (L.map (Lf.wk now)) b=(cW L b).map (Lf.wk now)
 | []=>rfl
 | a :: L=>by
  rw [List.map_cons,ft,ft,yX,mt now b L];by_cases h:a.backend=b
  ·rw [if_pos h,if_pos h]
   rfl
  ·rw [if_neg h,if_neg h]
theorem wk_may {now:Int} (h0:0≤now) (h1:now≤1099511627776) {x:Lf} (h:ex x):ex (Lf.wk now x):=by
 obtain ⟨a1,a2,a3,a4,a5,a6,a7,a8,a9,a10,hs⟩:=h;unfold Lf.wk;by_cases e:x.state=1
 ·rw [if_pos e];have:x.until_=0∧x.request=0:=by omega
  exact ⟨a1,a2,a3,a4,h0,h1,a7,a8,a9,a10,Or.inr (Or.inl ⟨rfl,this.1,this.2⟩)⟩
 ·rw [if_neg e];exact ⟨a1,a2,a3,a4,a5,a6,a7,a8,a9,a10,hs⟩
theorem En {now:Int} (h0:0≤now) (h1:now≤1099511627776) {L:List Lf} {R:List Rq} (h:bF L R):bF (L.map (Lf.wk now)) R:=by
 refine I1 (fun x hx=>?_) ?_ h.2.1 h.2.2.2.1 h.2.2.2.2
 ·obtain ⟨y,hy,rfl⟩:=II.1 hx;exact wk_may h0 h1 (dz h hy)
 ·rw [List.pairwise_map]
  exact (bZ h).imp fun {a b} hab=>by rw [yX,yX];exact hab
theorem stB_wk (now b:Int) (L:List Lf):gp (L.map (Lf.wk now)) b=if gp L b=1 then 2 else gp L b:=by
 unfold gp;exact Q121
def yT (L:List Lf) (ws:List Nat) (y:Int):List Nat:=ws.set y.toNat (oz L y).toNat
theorem sS (L:List Lf):∀ (Y:List Int) (ws:List Nat),(Y.foldl (yT L) ws).length=ws.length
 | [],_=>rfl
 | y :: Y,ws=>by rw [List.foldl_cons,sS L Y];simp [yT]
theorem pi:∀ (Y:List Int) (P:Wd) (ws:List Nat),ws.length=12→P.ring=bN ws→(Y.foldl gj P).ring=bN (Y.foldl (yT P.lives) ws)∧(Y.foldl gj P).lives=P.lives∧(Y.foldl gj P).health.length=P.health.length
 | [],_,_,_,h=>⟨h,rfl,rfl⟩
 | y :: Y,P,ws,hl,h=>by
  rw [List.foldl_cons,List.foldl_cons]
  have h1:(gj P y).ring=bN (yT P.lives ws y):=by
   unfold gj yT;simp only;rw [h,iz hl]
  have h2:=pi Y (gj P y) (yT P.lives ws y) (by simp [yT,hl]) h1;refine ⟨h2.1,h2.2.1,h2.2.2.trans ?_⟩;simp [gj]
theorem oP (L:List Lf) {b:Nat} (hb:b<12):∀ (Y:List Int) (ws:List Nat),ws.length=12→(∀ y∈Y,0≤y)→(Y.foldl (yT L) ws).getD b 0=if (b:Int)∈Y then (oz L b).toNat else ws.getD b 0
 | [],ws,_,_=>by simp
 | y :: Y,ws,hl,h0=>by
  have hy:=h0 y (ID ..);rw [List.foldl_cons,oP L hb Y _ (by simp [yT,hl]) (fun z hz=>h0 z (IF _ hz))];by_cases h1:(b:Int)∈Y
  ·rw [if_pos h1,if_pos (IF _ h1)]
  ·rw [if_neg h1];unfold yT;by_cases h2:(b:Int)=y
   ·subst h2;rw [if_pos (ID ..),Iu,cJ (by omega),if_pos rfl]
   ·rw [if_neg (by simp [h1,h2])];by_cases h3:y.toNat<ws.length
    ·rw [cJ h3,if_neg (by omega)]
    ·rw [List.set_eq_of_length_le (by omega)]
theorem yU (X:Wd):dq X=(X.lives.filter fun x=>decide (x.state=1)).map Lf.backend:=by unfold dq lD;rw [Iv (Ij _)]
theorem mb {X:Wd} (h:bF X.lives X.reqs) {b:Int}:b∈dq X↔gp X.lives b=1:=by
 rw [yU];constructor
 ·intro hb;obtain ⟨x,hx,rfl⟩:=II.1 hb;obtain ⟨hx,h1⟩:=List.mem_filter.1 hx;rw [pD (bZ h) hx];simpa using h1
 ·intro hb;obtain ⟨x,hx,e,h1⟩:=mf hb (by decide);exact II.2 ⟨x,List.mem_filter.2 ⟨hx,by simpa using h1⟩,e⟩
theorem sV {X:Wd} (h:bF X.lives X.reqs) {b:Int} (hb:b∈dq X):0≤b∧b≤11:=by
 obtain ⟨x,hx,rfl,_⟩:=mf ((mb h).1 hb) (by decide);have:=dz h hx;exact ⟨this.1,this.2.1⟩
theorem F0 (now b:Int) (L:List Lf):oz (L.map (Lf.wk now)) b=oz L b:=by
 unfold oz;exact Q121
theorem Gb {X:Wd} (h:bF X.lives X.reqs) (now:Int):(dq X).foldl (yT (X.lives.map (Lf.wk now))) (dK X.lives)=dK (X.lives.map (Lf.wk now)):=by
 have h12:((dq X).foldl (yT (X.lives.map (Lf.wk now))) (dK X.lives)).length=12:=by rw [sS,cA]
 refine List.ext_getElem (by rw [h12,cA]) fun b h1 h2=>?_;have hb:b<12:=by omega
 rw [← aK h1 0,← aK h2 0,oP _ hb _ _ (cA _) (fun y hy=>(sV h hy).1),fc _ hb,fc _ hb,mt,F0];by_cases hw:(b:Int)∈dq X
 ·rw [if_pos hw];have hs:=(mb h).1 hw;unfold gp at hs;unfold oz
  cases hl:cW X.lives (b:Nat) with
  | none=>rw [hl] at hs;simp at hs
  | some x=>
   exact Q160
 ·rw [if_neg hw];have hs:gp X.lives b≠1:=fun g=>hw ((mb h).2 g);unfold gp at hs
  cases hl:cW X.lives (b:Nat) with
  | none=>rfl
  | some x=>
   exact Q160
theorem xC {X:Wd} (h:GwMay X):(cu X).ring=bN (dK (cu X).lives):=by
 have h1:=pi (dq X) (bL X) (dK X.lives) (cA _) h.rg;unfold cu;rw [h1.1,h1.2.1]
 congr 1
 exact Gb h.bk _
theorem fQ (now:Int) (A B:List Fl):em now (A++B)=em now A++em now B:=by simp [em]
theorem td {now s:Int} {A:List Fl} (h:∀ g∈A,g.slot≠s):(em now A).filter (fun t=>!(t.id == s))=em now A:=by
 refine List.filter_eq_self.2 fun t ht=>?_;obtain ⟨g,hg,rfl⟩:=II.1 ht;have:=h g (List.mem_filter.1 hg).1;simpa [mX] using this
theorem Fn {now:Int} {f:Fl}:(em now [f]).filter (fun t=>!(t.id == f.slot))=[]:=by
 refine List.filter_eq_nil_iff.2 fun t ht=>?_;obtain ⟨g,hg,rfl⟩:=II.1 ht;have:=(List.mem_filter.1 hg).1;simp at this;subst this;simp [mX]
structure Around (F:List Fl) (i:Nat) (A:List Fl) (f:Fl) (B:List Fl):Prop where
 eq:F=A++f :: B
 len:A.length=i
 ne:∀ g∈A++B,g.slot≠f.slot
 so:(A++B).Pairwise fun a b=>a.slot<b.slot
theorem qP {F:List Fl} (hs:F.Pairwise fun a b=>a.slot<b.slot) {i:Nat} (hi:i<F.length):Around F i (F.take i) (F.getD i Fl.zero) (F.drop (i+1)):=by
 have e:F=F.take i++F.getD i Fl.zero :: F.drop (i+1):=by
  conv=>lhs;rw [← IE i F]
  rw [aK hi,List.getElem_cons_drop]
 refine ⟨e,by rw [Iz];omega,fun g hg=>?_,?_⟩
 ·rw [e,List.pairwise_append,List.pairwise_cons] at hs;rcases List.mem_append.1 hg with hg|hg
  ·have:=hs.2.2 g hg _ (ID ..);omega
  ·have:=hs.2.1.1 g hg;omega
 ·rw [e] at hs;refine hs.sublist ?_;exact List.Sublist.append (List.Sublist.refl _) (List.sublist_cons_self _ _)
theorem Around.mem {F A B:List Fl} {i:Nat} {f g:Fl} (h:Around F i A f B):g∈F↔g=f∨g∈A++B:=by
 rw [h.eq];simp only [List.mem_append,List.mem_cons];constructor
 ·exact Q166
 ·exact Q166
theorem zO {X:Wd} (h:GwMay X) {i:Nat} {A B:List Fl} {f:Fl} (ha:Around X.flows i A f B):(X.lists.flatten.filter fun t=>!(t.id == f.slot)).Perm (em X.now (A++B)):=by
 refine (h.whp.filter _).trans ?_
 have e:X.flows=A++([f]++B):=by rw [ha.eq];rfl
 rw [e,fQ,fQ,fQ,List.filter_append,List.filter_append,td (fun g hg=>ha.ne g (List.mem_append_left _ hg)),td (fun g hg=>ha.ne g (List.mem_append_right _ hg)),Fn];exact List.Perm.refl _
theorem E8 {X:Wd} (h:GwMay X) {i:Nat} (hi:i<X.flows.length):GwBut (iJ X i (dQ X.tab (X.flows.getD i Fl.zero))) (X.flows.getD i Fl.zero).backend:=by
 have ha:=qP h.so hi;generalize hA:X.flows.take i=A at ha;generalize hB:X.flows.drop (i+1)=B at ha;generalize hf:X.flows.getD i Fl.zero=f at ha;have hfm:f∈X.flows:=ha.mem.2 (Or.inl rfl);have hff:=h.fl f hfm;have hs0:=hff.s0;have hs1:=hff.s1
 have hd:iJ X i (dQ X.tab f)={ X with flows:=A++B,tab:=dQ X.tab f,lists:=BL X.now X.lists f.slot }:=by unfold iJ;rw [hA,hB,hf]
 rw [hd];have hti:f.slot.toNat<X.tab.length:=by omega
 refine { cf:=h.cf,n0:=h.n0,n1:=h.n1,tb:=h.tabd hfm,tl:=?_,bk:=h.bk,hl:=h.hl,ht:=h.ht,ho:=h.ho,t0:=h.t0,t1:=h.t1,rg:=h.rg,wn:=h.wn,wl:=?_,so:=ha.so,fl:=fun g hg=>?_,us:=?_,dr:=?_,si:=h.si }
 ·simp only [dQ,Ix];exact h.tl
 ·simp only [BL];exact fB (zO h ha)
 ·have h1:=h.fl g (ha.mem.2 (Or.inr hg));have hne:=ha.ne g hg;have g0:=h1.s0;refine ⟨h1.s0,by simp only [dQ,Ix];exact h1.s1,?_,h1.r0,h1.r1,h1.st,h1.d0,h1.d1⟩;simp only [dQ];rw [cJ hti,if_neg (by omega)];exact h1.sl
 ·intro s hs hu;simp only [dQ,Ix] at hs hu;rw [cJ hti] at hu;by_cases e:f.slot.toNat=s
  ·rw [if_pos e] at hu
   cases hu
  ·rw [if_neg e] at hu;obtain ⟨g,hg,hgs⟩:=h.us s hs hu;rcases ha.mem.1 hg with rfl|hg
   ·omega
   ·exact ⟨g,hg,hgs⟩
 ·intro x hx h3 hne;obtain ⟨g,hg,hgb⟩:=h.dr x hx h3;rcases ha.mem.1 hg with rfl|hg
  ·exact absurd hgb.symm hne
  ·exact ⟨g,hg,hgb⟩
theorem mJ {X:Wd} (h:GwMay X) {i:Nat} (hi:i<X.flows.length) (k y:Int):GwMay (g9 X i k y).1:=lH (E8 h hi)
theorem Around.set {F A B:List Fl} {i:Nat} {f:Fl} (h:Around F i A f B) (g:Fl):F.set i g=A++g :: B:=by
 rw [h.eq,List.set_append_right i g (by rw [h.len];exact Ij _),h.len,Nat.sub_self,List.set_cons_zero]
theorem Around.so' {F A B:List Fl} {i:Nat} {f g:Fl} (h:Around F i A f B) (hF:F.Pairwise fun a b=>a.slot<b.slot) (hs:g.slot=f.slot):(A++g :: B).Pairwise fun a b=>a.slot<b.slot:=by
 have e:(A++g :: B).map Fl.slot=F.map Fl.slot:=by rw [h.eq];simp [hs]
 have h1:(F.map Fl.slot).Pairwise (fun a b=>a<b):=List.pairwise_map.2 hF;rw [← e] at h1;exact List.pairwise_map.1 h1
theorem zc {now:Int} {g:Fl} (h:now<g.due):em now [g]=[mX g]:=by simp [em,h]
theorem GB {X:Wd} (h:GwMay X) {i:Nat} {A B:List Fl} {f g:Fl} (ha:Around X.flows i A f B) {span:Int} (hs:g.slot=f.slot) (hd:g.due=X.now+span) (h1:1≤span):jH X.now X.lists f.slot span=bJ X.now (em X.now (A++g :: B)):=by
 unfold jH;refine fB ?_;have e:A++g :: B=A++([g]++B):=rfl;rw [e,fQ,fQ,zc (by omega),show mX g=⟨X.now+span,f.slot⟩ by unfold mX;rw [hs,hd]];refine ((zO h ha).append_right _).trans ?_;rw [fQ,List.append_assoc];exact (List.perm_append_comm).append_left _
structure zY (X:Wd) (f g:Fl) (span:Int):Prop where
 sl:g.slot=f.slot
 gn:g.gen=f.gen
 ky:g.key=f.key
 du:g.due=X.now+span
 s1:1≤span
 s2:span≤500
 r0:0≤g.retries
 r1:g.retries≤X.cf.retries
 st:gp X.lives g.backend=2∨gp X.lives g.backend=3
def sL (X:Wd) (i:Nat) (g:Fl) (span tok:Int):Wd:={ X with tok:=tok,tab:=X.tab.set g.slot.toNat ⟨g.gen,true,g.key,g.backend⟩,flows:=X.flows.set i g,lists:=jH X.now X.lists g.slot span }
theorem Cr {L:List Lf} {R:List Rq} (h:bF L R) {b:Int} (hs:gp L b=2∨gp L b=3):0≤b∧b≤11:=by
 have:∃ x∈L,x.backend=b:=by
  rcases hs with hs|hs
  ·obtain ⟨x,hx,e,_⟩:=mf hs (by decide);exact ⟨x,hx,e⟩
  ·obtain ⟨x,hx,e,_⟩:=mf hs (by decide);exact ⟨x,hx,e⟩
 obtain ⟨x,hx,rfl⟩:=this;have:=dz h hx;exact ⟨this.1,this.2.1⟩
theorem wX {X:Wd} (h:GwMay X) {i:Nat} (hi:i<X.flows.length) {g:Fl} {span tok:Int} (hg:zY X (X.flows.getD i Fl.zero) g span) (h0:0≤tok) (h1:tok≤X.cf.bb*X.cf.bd):GwBut (sL X i g span tok) (X.flows.getD i Fl.zero).backend:=by
 have ha:=qP h.so hi;generalize hA:X.flows.take i=A at ha;generalize hB:X.flows.drop (i+1)=B at ha;generalize hf:X.flows.getD i Fl.zero=f at ha hg ⊢;have hfm:f∈X.flows:=ha.mem.2 (Or.inl rfl);have hff:=h.fl f hfm;obtain ⟨q,q1,q2,q3,q4,q5,q6,q7,q8,q9⟩:=h.num hfm;have hs0:=hff.s0;have hs1:=hff.s1
 have hti:g.slot.toNat<X.tab.length:=by rw [hg.sl];omega
 have hbb:=Cr h.bk hg.st;have hset:=ha.set g;unfold sL;rw [hset];refine { cf:=h.cf,n0:=h.n0,n1:=h.n1,tb:=?_,tl:=?_,bk:=h.bk,hl:=h.hl,ht:=h.ht,ho:=h.ho,t0:=h0,t1:=h1,rg:=h.rg,wn:=h.wn,wl:=?_,so:=ha.so' h.so hg.sl,fl:=fun k hk=>?_,us:=?_,dr:=?_,si:=h.si }
 ·refine oQ h.tb _ ?_;unfold ds;simp only [if_true,hg.gn,hg.ky];omega
 ·simp only [Ix];exact h.tl
 ·simp only;rw [hg.sl];exact GB h ha hg.sl hg.du hg.s1
 ·simp only at hk
  have hk':k=g∨k∈A++B:=by
   simp only [List.mem_append,List.mem_cons] at hk ⊢;rcases hk with hk|hk|hk
   ·exact Or.inr (Or.inl hk)
   ·exact Or.inl hk
   ·exact Or.inr (Or.inr hk)
  rcases hk' with rfl|hk'
  ·refine ⟨by rw [hg.sl];exact hs0,by simp only [Ix];rw [hg.sl];exact hs1,?_,hg.r0,hg.r1,hg.st,?_,?_⟩
   ·simp only;rw [cJ hti,if_pos rfl]
   ·have:=hg.du;have:=hg.s1;simp only;omega
   ·have:=hg.du;have:=hg.s2;simp only;omega
  ·have h2:=h.fl k (ha.mem.2 (Or.inr hk'));have hne:=ha.ne k hk';have g0:=h2.s0;refine ⟨h2.s0,by simp only [Ix];exact h2.s1,?_,h2.r0,h2.r1,h2.st,h2.d0,h2.d1⟩;simp only;rw [cJ hti,if_neg (by rw [hg.sl];omega)];exact h2.sl
 ·intro s hs hu;simp only [Ix] at hs hu;rw [cJ hti] at hu;by_cases e:g.slot.toNat=s
  ·exact ⟨g,by simp,by rw [hg.sl] at e ⊢;omega⟩
  ·rw [if_neg e] at hu;obtain ⟨k,hk,hks⟩:=h.us s hs hu;rcases ha.mem.1 hk with rfl|hk
   ·rw [hg.sl] at e;omega
   ·refine ⟨k,?_,hks⟩;exact Q134
 ·intro x hx h3 hne;obtain ⟨k,hk,hkb⟩:=h.dr x hx h3;rcases ha.mem.1 hk with rfl|hk
  ·exact absurd hkb.symm hne
  ·refine ⟨k,?_,hkb⟩;exact Q134
theorem sK {X:Wd} (h:GwMay X) {i:Nat} (hi:i<X.flows.length) {g:Fl} {span tok:Int} (hg:zY X (X.flows.getD i Fl.zero) g span) (h0:0≤tok) (h1:tok≤X.cf.bb*X.cf.bd) (hb:g.backend=(X.flows.getD i Fl.zero).backend):GwMay (sL X i g span tok):=
 (wX h hi hg h0 h1).all fun x _ _ e=>⟨g,by
  unfold sL;simp only;rw [List.mem_iff_getElem]
  exact ⟨i,by simpa using hi,by simp⟩,by rw [hb,e]⟩
theorem GwMay.at_ {X:Wd} (_:GwMay X) {i:Nat} (hi:i<X.flows.length):X.flows.getD i Fl.zero∈X.flows:=by rw [aK hi];exact Iw hi
theorem wC {X:Wd} (h:GwMay X) {i:Nat} (hi:i<X.flows.length) (why:Int):GwMay (eu X i why).1:=by
 have hfm:=h.at_ hi;obtain ⟨q,q1,q2,q3,q4,q5,q6,q7,q8,q9⟩:=h.num hfm;have hff:=h.fl _ hfm;have hN:=h.noted (b:=(X.flows.getD i Fl.zero).backend.toNat) (by omega) true
 have hbd:1≤X.cf.bd:=by have:=h.cf.2.1;unfold gW at this;omega
 have ht1:=h.t1;unfold eu;simp only;by_cases hc:(X.flows.getD i Fl.zero).retries=X.cf.retries∨X.tok<X.cf.bd
 ·rw [if_pos hc];exact mJ hN hi _ _
 ·rw [if_neg hc];by_cases hp:(dp (bO X (X.flows.getD i Fl.zero).backend.toNat true) (X.flows.getD i Fl.zero).key.toNat (X.flows.getD i Fl.zero).slot).2≠0
  ·rw [if_pos hp];exact mJ hN hi _ _
  ·rw [if_neg hp];obtain ⟨x,hx,hx2,hxb⟩:=tH hN (hN.butF (f:=X.flows.getD i Fl.zero) hfm) (Decidable.not_not.1 hp);generalize (dp (bO X (X.flows.getD i Fl.zero).backend.toNat true) (X.flows.getD i Fl.zero).key.toNat (X.flows.getD i Fl.zero).slot).1=b at hxb ⊢;have hr0:=hff.r0;have hr1:=hff.r1;have hcn:=h.cf.1.1;have hst:=pD (bZ hN.bk) hx;rw [hxb,hx2] at hst
   have hg:zY (bO X (X.flows.getD i Fl.zero).backend.toNat true) ((bO X (X.flows.getD i Fl.zero).backend.toNat true).flows.getD i Fl.zero) { X.flows.getD i Fl.zero with backend:=b,retries:=(X.flows.getD i Fl.zero).retries+1,due:=X.now+X.cf.connect } X.cf.connect:=
    ⟨rfl,rfl,rfl,rfl,by omega,by omega,by simp only;omega,by simp only [bO];omega,Or.inl hst⟩
   have h0:0≤X.tok - X.cf.bd:=by omega
   have h1:X.tok - X.cf.bd≤X.cf.bb*X.cf.bd:=by omega
   by_cases e:(X.flows.getD i Fl.zero).backend=b
   ·rw [if_pos e];exact sK hN hi hg h0 h1 e.symm
   ·rw [if_neg e];exact lH (wX hN hi hg h0 h1)
theorem rS {α:Type} {L:List α} {i:Nat} (h:i<L.length) {d x:α} (hx:L.getD i d=x):L.set i x=L:=by
 rw [aK h] at hx;subst hx;exact List.set_getElem_self h
theorem vQ {X:Wd} (h:GwMay X) {i:Nat} (hi:i<X.flows.length):GwMay (kt X i):=by
 have hfm:=h.at_ hi;have hff:=h.fl _ hfm;have h0:=hff.s0;have h1:=hff.s1;have hcn:=h.cf.1.1;have hr0:=hff.r0;have hr1:=hff.r1;have hg:zY X (X.flows.getD i Fl.zero) { X.flows.getD i Fl.zero with due:=X.now+X.cf.idle } X.cf.idle:=⟨rfl,rfl,rfl,rfl,by omega,by omega,hr0,hr1,hff.st⟩;have hM:=sK h hi hg h.t0 h.t1 rfl
 have e:sL X i { X.flows.getD i Fl.zero with due:=X.now+X.cf.idle } X.cf.idle X.tok=kt X i:=by
  unfold sL kt;simp only;rw [rS (d:=Sl.zero) (by omega) hff.sl]
 rw [← e];exact hM
theorem pK {X:Wd} (h:GwMay X) {i:Nat} (hi:i<X.flows.length):GwMay (gZ X i):=by
 have ha:=qP h.so hi;unfold gZ;generalize hA:X.flows.take i=A at ha;generalize hB:X.flows.drop (i+1)=B at ha;generalize hf:X.flows.getD i Fl.zero=f at ha ⊢;have hfm:f∈X.flows:=ha.mem.2 (Or.inl rfl);have hff:=h.fl f hfm;have hset:=ha.set { f with serving:=true }
 have hmem:∀ k,k∈A++{ f with serving:=true } :: B↔k={ f with serving:=true }∨k∈A++B:=by
  intro k;exact Q80
 rw [hset];refine { cf:=h.cf,n0:=h.n0,n1:=h.n1,tb:=h.tb,tl:=h.tl,bk:=h.bk,hl:=h.hl,ht:=h.ht,ho:=h.ho,t0:=h.t0,t1:=h.t1,rg:=h.rg,wn:=h.wn,wl:=?_,so:=ha.so' h.so rfl,fl:=fun k hk=>?_,us:=?_,dr:=?_,si:=h.si }
 ·simp only;rw [h.wl,ha.eq]
  have e:em X.now (A++{ f with serving:=true } :: B)=em X.now (A++f :: B):=by
   rw [show A++{ f with serving:=true } :: B=A++([{ f with serving:=true }]++B) from rfl,show A++f :: B=A++([f]++B) from rfl,fQ,fQ,fQ,fQ]
   congr 2
   unfold em;by_cases hd:X.now<f.due
   ·simp [hd,mX]
   ·simp [hd]
  rw [e]
 ·have hk':k={ f with serving:=true }∨k∈A++B:=(hmem k).1 hk;rcases hk' with rfl|hk'
  ·exact ⟨hff.s0,hff.s1,hff.sl,hff.r0,hff.r1,hff.st,hff.d0,hff.d1⟩
  ·have h2:=h.fl k (ha.mem.2 (Or.inr hk'));exact ⟨h2.s0,h2.s1,h2.sl,h2.r0,h2.r1,h2.st,h2.d0,h2.d1⟩
 ·intro s hs hu;obtain ⟨k,hk,hks⟩:=h.us s hs hu;rcases ha.mem.1 hk with rfl|hk
  ·exact ⟨_,(hmem _).2 (Or.inl rfl),hks⟩
  ·exact ⟨k,(hmem _).2 (Or.inr hk),hks⟩
 ·intro x hx h3;obtain ⟨k,hk,hkb⟩:=h.dr x hx h3;rcases ha.mem.1 hk with rfl|hk
  ·exact ⟨_,(hmem _).2 (Or.inl rfl),hkb⟩
  ·exact ⟨k,(hmem _).2 (Or.inr hk),hkb⟩
theorem DZ {X:Wd} (h:GwMay X) (e:Ev):GwMay (ez X e).1:=by
 unfold ez;by_cases hc:rE X.tab e.slot e.gen≠0
 ·rw [if_pos hc];exact h
 ·rw [if_neg hc];obtain ⟨_,hi,_,_⟩:=tY h (Decidable.not_not.1 hc);by_cases h3:e.kind=3
  ·rw [if_pos h3];exact mJ h hi _ _
  ·rw [if_neg h3];by_cases h2:e.kind=2
   ·rw [if_pos h2];simp only;by_cases hs:(X.flows.getD (eV X e.slot) Fl.zero).serving=true
    ·rw [if_pos hs];exact vQ h hi
    ·rw [if_neg hs];exact h
   ·rw [if_neg h2];by_cases hs:(X.flows.getD (eV X e.slot) Fl.zero).serving=true
    ·rw [if_pos hs];exact h
    ·rw [if_neg hs];by_cases hg:e.good=true
     ·rw [if_pos hg];have hfm:=h.at_ hi;obtain ⟨q,q1,q2,q3,q4,q5,q6,q7,q8,q9⟩:=h.num hfm;have hs':=pK h hi;have hN:=hs'.noted (b:=(X.flows.getD (eV X e.slot) Fl.zero).backend.toNat) (by omega) false;exact vQ hN (by simpa [bO,gZ] using hi)
     ·rw [if_neg hg];exact wC h hi _
theorem wH {P:Wd×List Out} (h:GwMay P.1) {slot:Int} (hf:gc P.1 slot):GwMay (ja P slot).1:=by
 unfold ja;by_cases hs:(P.1.flows.getD (eV P.1 slot) Fl.zero).serving=true
 ·rw [if_pos hs];exact mJ h hf.2 6 1
 ·rw [if_neg hs];exact wC h hf.2 _
theorem wM {P:Wd×List Out} (h:GwMay P.1) {slot:Int} (hf:gc P.1 slot):GwMay (lX P slot).1:=mJ h hf.2 6 2
theorem jr {X:Wd} (_:GwMay X) {slot:Int} (hf:∃ f∈X.flows,f.slot=slot):gc X slot:=by
 obtain ⟨f,hf,hs⟩:=hf;rcases b8 (mG slot) X.flows Fl.zero with ⟨_,hn⟩|⟨i,hi,he,_⟩
 ·have:=hn f hf;simp [mG,hs] at this
 ·have ha:eV X slot=i:=by unfold eV;rw [he];simp
  unfold gc;rw [ha];exact ⟨he,hi⟩
structure WdMay (X:Wd):Prop where
 gw:GwMay X
 du:∀ f∈X.flows,X.now<f.due
 un:∀ x∈X.lives,x.state=3→X.now<x.until_
theorem uA:∀ (Y:List Int) (P:Wd),Y.foldl gj P={ P with ring:=(Y.foldl gj P).ring,health:=(Y.foldl gj P).health }
 | [],_=>rfl
 | y :: Y,P=>by rw [List.foldl_cons,uA Y (gj P y)];rfl
theorem pn (i:Nat):∀ (Y:List Int) (P:Wd),(Y.foldl gj P).health.getD i Ht.zero=P.health.getD i Ht.zero∨(Y.foldl gj P).health.getD i Ht.zero=Ht.zero
 | [],_=>Or.inl rfl
 | y :: Y,P=>by
  rw [List.foldl_cons];rcases pn i Y (gj P y) with e|e
  ·rw [e];unfold gj;simp only;by_cases hy:y.toNat<P.health.length
   ·rw [cJ hy];by_cases e2:y.toNat=i
    ·rw [if_pos e2];exact Or.inr rfl
    ·rw [if_neg e2];exact Or.inl rfl
   ·rw [List.set_eq_of_length_le (by omega)];exact Or.inl rfl
  ·exact Or.inr e
theorem iv (X:Wd):cu X={ bL X with ring:=(cu X).ring,health:=(cu X).health }:=uA _ _
theorem uz:∀ (Y:List Int) (P:Wd),(Y.foldl gj P).health.length=P.health.length
 | [],_=>rfl
 | y :: Y,P=>by rw [List.foldl_cons,uz Y (gj P y)];simp [gj]
theorem uI (X:Wd):(cu X).health.length=X.health.length:=uz _ _
theorem DO {c:Cf} {h:Ht} {now:Int} (hw:gV c.ww c.wf c.wh) (h0:0≤now) (h1:now≤1099511627776) (hk:rK c.ww h.marks.length h.out h.until_ h.times):gb c.ww c.wf c.wh h.marks.length h.out h.until_ h.times now 0:=Or.inr (Or.inr (Or.inr ⟨hw,h0,h1,hk,rfl⟩))
theorem zG {a:Int} (h:0≤a):rK a Ht.zero.marks.length Ht.zero.out Ht.zero.until_ Ht.zero.times:=⟨h,by decide,by decide,by decide,by decide,fun _=>rfl⟩
theorem pA {X:Wd} (h:GwMay X) {i:Nat} (hi:i<12):rK X.cf.ww ((cu X).health.getD i Ht.zero).marks.length ((cu X).health.getD i Ht.zero).out ((cu X).health.getD i Ht.zero).until_ ((cu X).health.getD i Ht.zero).times:=by
 obtain ⟨h1,h2,h3,h4⟩:=fv (h.ht i hi);rcases pn i (dq X) (bL X) with e|e
 ·unfold cu;rw [e];exact h4
 ·unfold cu;rw [e];exact zG (by have:=h1.1;omega)
theorem Ft {X:Wd} (h:GwMay X) (hn:X.now<1099511626776) {i:Nat} (hi:i<12):gb X.cf.ww X.cf.wf X.cf.wh ((cu X).health.getD i Ht.zero).marks.length ((cu X).health.getD i Ht.zero).out ((cu X).health.getD i Ht.zero).until_ ((cu X).health.getD i Ht.zero).times (X.now+1) 0:=
 DO h.cf.2.2 (by have:=h.n0;omega) (by omega) (pA h hi)
theorem wU {a now:Int} {h:Ht} (hk:rK a h.marks.length h.out h.until_ h.times):rK a (fE now h).marks.length (fE now h).out (fE now h).until_ (fE now h).times∧((fE now h).out=true→now<(fE now h).until_):=by
 obtain ⟨a1,a2,a3,a4,a5,a6⟩:=hk;unfold fE;by_cases hc:h.out=true∧h.until_≤now
 ·rw [if_pos hc];exact ⟨⟨a1,a2,a3,Int.le_refl 0,(by decide:(0:Int)≤1099511628276),fun _=>rfl⟩,by simp⟩
 ·rw [if_neg hc];exact ⟨⟨a1,a2,a3,a4,a5,a6⟩,fun ho=>by rw [ho] at hc;simp at hc;exact hc⟩
theorem jq {α β:Type} (f:α→β) {L:List α} {i:Nat} (h:i<L.length) (d:α) (e:β):(L.map f).getD i e=f (L.getD i d):=by
 rw [aK (by simpa using h),aK h,List.getElem_map]
theorem Ci {X:Wd} (h:GwMay X):(X.lists.flatten.filter fun t=>decide (X.now+1<t.at_)).Perm (em (X.now+1) X.flows):=by
 refine (h.whp.filter _).trans ?_;unfold em;rw [List.filter_map,List.filter_filter];refine List.Perm.of_eq (congrArg _ (List.filter_congr fun f _=>?_));simp only [Function.comp,mX];by_cases h1:X.now+1<f.due
 ·simp [h1];omega
 ·simp [h1]
theorem rP {X:Wd} (h:WdMay X) (hn:X.now<1099511626776):GwMay (fS X):=by
 have g:=h.gw;have n0:=g.n0
 have hl1:(cu X).health.length=12:=by rw [uI];exact g.hl
 have hf:=iv X
 have hlv:(cu X).lives=X.lives.map (Lf.wk (X.now+1)):=by rw [hf];rfl
 have hrg:=xC g;rw [hlv] at hrg
 have e:fS X={ bL X with ring:=(cu X).ring,health:=(cu X).health.map (fE (X.now+1)) }:=by
  unfold fS
  have hnow:(cu X).now=X.now+1:=by rw [hf];rfl
  rw [hnow]
  conv=>lhs;rw [hf]
 rw [e]
 have hst:∀ {b:Int},gp X.lives b=2∨gp X.lives b=3→gp (X.lives.map (Lf.wk (X.now+1))) b=2∨gp (X.lives.map (Lf.wk (X.now+1))) b=3:=by
  intro b hb;rw [stB_wk,if_neg (by omega)];exact hb
 refine { cf:=g.cf,n0:=by simp only [bL];omega,n1:=by simp only [bL];omega,tb:=g.tb,tl:=g.tl,bk:=En (by omega) (by omega) g.bk,hl:=by simpa using hl1,ht:=?_,ho:=?_,t0:=g.t0,t1:=g.t1,rg:=hrg,wn:=rfl,wl:=fB (Ci g),so:=g.so,fl:=fun f hfm=>?_,us:=g.us,dr:=?_,si:=?_ }
 ·intro i hi;simp only;rw [jq _ (by omega) Ht.zero];exact DO g.cf.2.2 (by simp only [bL];omega) (by simp only [bL];omega) (wU (pA g hi)).1
 ·intro i hi;simp only;rw [jq _ (by omega) Ht.zero];exact (wU (pA g hi)).2
 ·have h2:=g.fl f hfm;have h3:=h.du f hfm;have d1:=h2.d1;exact ⟨h2.s0,h2.s1,h2.sl,h2.r0,h2.r1,hst h2.st,by simp only [bL];omega,by simp only [bL];omega⟩
 ·intro x hx h3;obtain ⟨y,hy,rfl⟩:=II.1 (show x∈X.lives.map (Lf.wk (X.now+1)) from hx)
  have hy3:y.state=3:=by
   unfold Lf.wk at h3;by_cases e1:y.state=1
   ·rw [if_pos e1] at h3;exact absurd h3 (by simp)
   ·rw [if_neg e1] at h3;exact h3
  obtain ⟨f,hfm,hfb⟩:=g.dr y hy hy3;exact ⟨f,hfm,by rw [yX];exact hfb⟩
 ·intro x hx;obtain ⟨y,hy,rfl⟩:=II.1 (show x∈X.lives.map (Lf.wk (X.now+1)) from hx);have:=g.si y hy;unfold Lf.wk;simp only [bL];by_cases e1:y.state=1
  ·rw [if_pos e1];simp
  ·rw [if_neg e1];omega
theorem E0 {L:List Lf} {b:Int} {x:Lf} (h:x∈ju L b):x∈L∨x.state=4:=by
 unfold ju at h
 cases e:L.findIdx? (cq b) with
 | none=>rw [e] at h;exact Or.inl h
 | some i=>
  rw [e] at h;rcases List.mem_or_eq_of_mem_set h with h|rfl
  ·exact Or.inl h
  ·exact Or.inr rfl
theorem iy (X:Wd) (b:Int):∃ L,(bP X b).1={ X with lives:=L }∧(∀ x∈L,x.state=3→x∈X.lives)∧(bP X b).2.length≤1:=by
 unfold bP
 cases cW X.lives b with
 | none=>exact ⟨X.lives,rfl,fun _ h _=>h,by simp⟩
 | some x=>
  simp only;by_cases hc:x.state=3∧iO X.tab b X.tab.length=[]
  ·rw [if_pos hc];refine ⟨ju X.lives b,rfl,fun y hy h3=>?_,by simp⟩;rcases E0 hy with h|h
   ·exact h
   ·omega
  ·rw [if_neg hc];exact ⟨X.lives,rfl,fun _ h _=>h,by simp⟩
structure StepS (P Q:Wd×List Out) (s:Int):Prop where
 now:Q.1.now=P.1.now
 fl:∀ f∈Q.1.flows,(f∈P.1.flows∧f.slot≠s)∨P.1.now<f.due
 ke:∀ f∈P.1.flows,f.slot≠s→f∈Q.1.flows
 lv:∀ x∈Q.1.lives,x.state=3→x∈P.1.lives
 ou:Q.2.length≤P.2.length+2
structure CutAns (P Q:Wd×List Out) (s:Int):Prop where
 now:Q.1.now=P.1.now
 fl:∀ f,f∈Q.1.flows↔f∈P.1.flows∧f.slot≠s
 lv:∀ x∈Q.1.lives,x.state=3→x∈P.1.lives
 ou:Q.2.length≤P.2.length+2
 ln:Q.1.flows.length+1=P.1.flows.length
theorem CutAns.step {P Q:Wd×List Out} {s:Int} (h:CutAns P Q s):StepS P Q s:=⟨h.now,fun f hf=>Or.inl ((h.fl f).1 hf),fun f hf hs=>(h.fl f).2 ⟨hf,hs⟩,h.lv,h.ou⟩
theorem qB {X:Wd} {s:Int} (h:gc X s):(X.flows.getD (eV X s) Fl.zero).slot=s:=by
 rcases b8 (mG s) X.flows Fl.zero with ⟨e,_⟩|⟨i,hi,e,hp,_⟩
 ·have:=h.1;omega
 ·have:=h.1;have:eV X s=i:=by omega
  rw [this];simpa [mG] using hp
theorem mI {X:Wd} (h:GwMay X) {s:Int} (hf:gc X s) (O:List Out) (k y:Int):CutAns (X,O) ((g9 X (eV X s) k y).1,O++(g9 X (eV X s) k y).2) s:=by
 have ha:=qP h.so hf.2;have hs:=qB hf
 have hm:∀ g,g∈X.flows.take (eV X s)++X.flows.drop (eV X s+1)↔g∈X.flows∧g.slot≠s:=by
  intro g;constructor
  ·intro hg;have:=ha.ne g hg;rw [hs] at this;exact ⟨ha.mem.2 (Or.inr hg),this⟩
  ·rintro ⟨hg,hne⟩;rcases ha.mem.1 hg with rfl|hg
   ·exact absurd hs hne
   ·exact hg
 unfold g9;obtain ⟨L,e,hL,ho⟩:=iy (iJ X (eV X s) (dQ X.tab (X.flows.getD (eV X s) Fl.zero))) (X.flows.getD (eV X s) Fl.zero).backend;refine ⟨?_,fun f=>?_,?_,?_,?_⟩
 ·simp only;rw [e]
  rfl
 ·simp only;rw [e];exact hm f
 ·simp only;rw [e];exact hL
 ·simp only [It,List.length_cons];omega
 ·simp only;rw [e];simp only [iJ,It,Iz,List.length_drop];have:=hf.2;omega
theorem sC {X:Wd} (h:GwMay X) {s:Int} (hf:gc X s) (O:List Out) (why:Int):StepS (X,O) ((eu X (eV X s) why).1,O++(eu X (eV X s) why).2) s:=by
 have ha:=qP h.so hf.2;have hs:=qB hf;have hfm:=h.at_ hf.2;obtain ⟨q,q1,q2,q3,q4,q5,q6,q7,q8,q9⟩:=h.num hfm;have hN:=h.noted (b:=(X.flows.getD (eV X s) Fl.zero).backend.toNat) (by omega) true;have hfN:gc (bO X (X.flows.getD (eV X s) Fl.zero).backend.toNat true) s:=hf
 have hE:∀ k y,StepS (X,O) ((g9 (bO X (X.flows.getD (eV X s) Fl.zero).backend.toNat true) (eV X s) k y).1,O++(g9 (bO X (X.flows.getD (eV X s) Fl.zero).backend.toNat true) (eV X s) k y).2) s:=by
  intro k y;have h1:=(mI hN hfN O k y).step;exact ⟨h1.now,h1.fl,h1.ke,h1.lv,h1.ou⟩
 have hcn:=h.cf.1.1;unfold eu;simp only;by_cases hc:(X.flows.getD (eV X s) Fl.zero).retries=X.cf.retries∨X.tok<X.cf.bd
 ·rw [if_pos hc];exact hE _ _
 ·rw [if_neg hc];by_cases hp:(dp (bO X (X.flows.getD (eV X s) Fl.zero).backend.toNat true) (X.flows.getD (eV X s) Fl.zero).key.toNat (X.flows.getD (eV X s) Fl.zero).slot).2≠0
  ·rw [if_pos hp];exact hE _ _
  ·rw [if_neg hp];generalize (dp (bO X (X.flows.getD (eV X s) Fl.zero).backend.toNat true) (X.flows.getD (eV X s) Fl.zero).key.toNat (X.flows.getD (eV X s) Fl.zero).slot).1=b
   have hM:∀ L,(∀ x∈L,x.state=3→x∈X.lives)→∀ O',O'.length≤1→StepS (X,O) ({ fZ (bO X (X.flows.getD (eV X s) Fl.zero).backend.toNat true) (eV X s) b with lives:=L },O++⟨5,(X.flows.getD (eV X s) Fl.zero).slot,(X.flows.getD (eV X s) Fl.zero).gen,b,0,0,0⟩ :: O') s:=by
    intro L hL O' hO';have hset:=fun g=>ha.set g;refine ⟨rfl,fun f hfl=>?_,fun f hfl hne=>?_,hL,by simp only [It,List.length_cons];omega⟩
    ·simp only [fZ,bO] at hfl;rw [hset] at hfl;simp only [List.mem_append,List.mem_cons] at hfl;rcases hfl with g|rfl|g
     ·have:=ha.ne f (List.mem_append_left _ g);rw [hs] at this;exact Or.inl ⟨ha.mem.2 (Or.inr (List.mem_append_left _ g)),this⟩
     ·refine Or.inr ?_;simp only;omega
     ·have:=ha.ne f (List.mem_append_right _ g);rw [hs] at this;exact Or.inl ⟨ha.mem.2 (Or.inr (List.mem_append_right _ g)),this⟩
    ·simp only [fZ,bO];rw [hset];simp only [List.mem_append,List.mem_cons];rcases ha.mem.1 hfl with rfl|g
     ·exact absurd hs hne
     ·rcases List.mem_append.1 g with g|g
      ·exact Or.inl g
      ·exact Or.inr (Or.inr g)
   by_cases e:(X.flows.getD (eV X s) Fl.zero).backend=b
   ·rw [if_pos e];exact hM X.lives (fun _ h _=>h) [] (by simp)
   ·rw [if_neg e];obtain ⟨L,e2,hL,ho⟩:=iy (fZ (bO X (X.flows.getD (eV X s) Fl.zero).backend.toNat true) (eV X s) b) (X.flows.getD (eV X s) Fl.zero).backend;rw [e2];exact hM L hL _ ho
theorem wF {P:Wd×List Out} (h:GwMay P.1) {s:Int} (hf:gc P.1 s):StepS P (ja P s) s:=by
 unfold ja;by_cases hs:(P.1.flows.getD (eV P.1 s) Fl.zero).serving=true
 ·rw [if_pos hs];exact (mI h hf P.2 6 1).step
 ·rw [if_neg hs];exact sC h hf P.2 5
theorem wK {P:Wd×List Out} (h:GwMay P.1) {s:Int} (hf:gc P.1 s):CutAns P (lX P s) s:=mI h hf P.2 6 2
structure yQ (P Q:Wd×List Out) (S:List Int):Prop where
 gw:GwMay Q.1
 now:Q.1.now=P.1.now
 fl:∀ f∈Q.1.flows,(f∈P.1.flows∧f.slot∉S)∨P.1.now<f.due
 ke:∀ f∈P.1.flows,f.slot∉S→f∈Q.1.flows
 lv:∀ x∈Q.1.lives,x.state=3→x∈P.1.lives
 ou:Q.2.length≤P.2.length+2*S.length
theorem wG:∀ (S:List Int) (P:Wd×List Out),GwMay P.1→S.Nodup→(∀ s∈S,∃ f∈P.1.flows,f.slot=s)→yQ P (S.foldl ja P) S
 | [],P,h,_,_=>⟨h,rfl,fun f hf=>Or.inl ⟨hf,by simp⟩,fun f hf _=>hf,fun _ h _=>h,by simp⟩
 | s :: S,P,h,hn,hS=>by
  rw [List.nodup_cons] at hn;have hf:=jr h (hS s (ID ..));have h1:=wF h hf
  have h2:=wG S (ja P s) (wH h hf) hn.2 (fun t ht=>by
   obtain ⟨f,hfm,hfs⟩:=hS t (IF _ ht)
   exact ⟨f,h1.ke f hfm (fun e=>hn.1 (by rw [← e,hfs];exact ht)),hfs⟩)
  rw [List.foldl_cons];refine ⟨h2.gw,h2.now.trans h1.now,fun f hfm=>?_,fun f hfm hns=>?_,fun x hx h3=>h1.lv x (h2.lv x hx h3) h3,?_⟩
  ·rcases h2.fl f hfm with ⟨g1,g2⟩|g
   ·rcases h1.fl f g1 with ⟨g3,g4⟩|g3
    ·exact Or.inl ⟨g3,by simp [g4,g2]⟩
    ·exact Or.inr g3
   ·rw [h1.now] at g;exact Or.inr g
  ·simp only [List.mem_cons,not_or] at hns;exact h2.ke f (h1.ke f hfm hns.1) hns.2
  ·have:=h2.ou;have:=h1.ou;simp only [List.length_cons];omega
structure Ad (P Q:Wd×List Out) (S:List Int):Prop where
 gw:GwMay Q.1
 now:Q.1.now=P.1.now
 fl:∀ f,f∈Q.1.flows↔f∈P.1.flows∧f.slot∉S
 lv:∀ x∈Q.1.lives,x.state=3→x∈P.1.lives
 ou:Q.2.length+2*Q.1.flows.length≤P.2.length+2*P.1.flows.length
theorem wL:∀ (S:List Int) (P:Wd×List Out),GwMay P.1→S.Nodup→(∀ s∈S,∃ f∈P.1.flows,f.slot=s)→Ad P (S.foldl lX P) S
 | [],P,h,_,_=>⟨h,rfl,fun f=>by simp,fun _ h _=>h,by simp⟩
 | s :: S,P,h,hn,hS=>by
  rw [List.nodup_cons] at hn;have hf:=jr h (hS s (ID ..));have h1:=wK h hf
  have h2:=wL S (lX P s) (wM h hf) hn.2 (fun t ht=>by
   obtain ⟨f,hfm,hfs⟩:=hS t (IF _ ht)
   exact ⟨f,(h1.fl f).2 ⟨hfm,(fun e=>hn.1 (by rw [← e,hfs];exact ht))⟩,hfs⟩)
  rw [List.foldl_cons];refine ⟨h2.gw,h2.now.trans h1.now,fun f=>?_,fun x hx h3=>h1.lv x (h2.lv x hx h3) h3,?_⟩
  ·rw [h2.fl,h1.fl];simp only [List.mem_cons,not_or];constructor
   ·rintro ⟨⟨a,b⟩,c⟩;exact ⟨a,b,c⟩
   ·rintro ⟨a,b,c⟩;exact ⟨⟨a,b⟩,c⟩
  ·have:=h2.ou;have:=h1.ou;have:=h1.ln;omega
theorem oX {X:Wd} (h:GwMay X) {s:Int}:s∈ey X↔∃ f∈X.flows,f.due=X.now+1∧f.slot=s:=by
 unfold ey;rw [((dg _).map Tm.id).mem_iff,((h.whp.filter _).map Tm.id).mem_iff];constructor
 ·intro g;obtain ⟨t,ht,rfl⟩:=II.1 g;obtain ⟨ht,hd⟩:=List.mem_filter.1 ht;obtain ⟨f,hf,rfl⟩:=II.1 ht;exact ⟨f,(List.mem_filter.1 hf).1,by simpa [mX] using hd,rfl⟩
 ·rintro ⟨f,hf,hd,rfl⟩;exact II.2 ⟨mX f,List.mem_filter.2 ⟨II.2 ⟨f,List.mem_filter.2 ⟨hf,by simp;omega⟩,rfl⟩,by simp [mX,hd]⟩,rfl⟩
theorem nv {X:Wd} (h:GwMay X):(ey X).Nodup:=by
 unfold ey;rw [((dg _).map Tm.id).nodup_iff,((h.whp.filter _).map Tm.id).nodup_iff];exact (List.filter_sublist.map Tm.id).nodup h.tms.2
theorem D6 {X:Wd} (h:GwMay X):(ey X).length≤40:=by
 have h1:=vx X;have h2:=h.whp.length_eq;exact Q125
theorem iR (X:Wd):(fS X).flows=X.flows∧(fS X).now=X.now+1∧(fS X).lives=X.lives.map (Lf.wk (X.now+1)):=by
 have hf:=iv X;unfold fS;simp only;rw [hf];exact ⟨rfl,rfl,rfl⟩
theorem qp {L:List Int} (h:L.Nodup) {k:Nat} (hk:k<L.length):L.getD k 0∉L.take k:=by
 intro g;obtain ⟨j,hj,e⟩:=List.mem_iff_getElem.1 g;rw [Iz] at hj;rw [aK hk,List.getElem_take] at e;exact List.pairwise_iff_getElem.1 (List.nodup_iff_pairwise_ne.1 h) j k (by omega) hk (by omega) e
theorem E6 {X:Wd} (h:WdMay X) (hn:X.now<1099511626776) (k:Nat):yQ (fS X,[]) (fR X k) ((ey X).take k):=by
 refine wG _ _ (rP h hn) ((List.take_sublist _ _).nodup (nv h.gw)) fun s hs=>?_;obtain ⟨f,hf,_,hfs⟩:=(oX h.gw).1 (List.mem_of_mem_take hs);exact ⟨f,by rw [(iR X).1];exact hf,hfs⟩
theorem kT {X:Wd} (h:WdMay X) (hn:X.now<1099511626776):yQ (fS X,[]) (ca X) (ey X):=by
 have:=E6 h hn (ey X).length;unfold fR at this;rw [js,List.take_length] at this;exact this
theorem jf {X:Wd} (h:GwMay X) {b s:Int}:s∈dt X.tab b↔∃ f∈X.flows,f.backend=b∧f.slot=s:=by
 unfold dt;constructor
 ·intro g;obtain ⟨x,hx,rfl⟩:=II.1 g;obtain ⟨k,hk,hu,hb,rfl⟩:=iU.1 hx;obtain ⟨f,hf,hs⟩:=h.us k hk hu;refine ⟨f,hf,?_,hs⟩;exact Q170
 ·rintro ⟨f,hf,rfl,rfl⟩;have h1:=h.fl f hf;have h0:=h1.s0;have h2:=h1.s1;refine II.2 ⟨⟨f.slot.toNat,(X.tab.getD f.slot.toNat Sl.zero).gen⟩,iU.2 ⟨f.slot.toNat,by omega,by rw [h1.sl],by rw [h1.sl],rfl⟩,by simp only;omega⟩
theorem se (T:List Sl) (b:Int):∀ n,((iO T b n).map Hd.slot).Nodup
 | 0=>by simp [iO]
 | n+1=>by
  simp only [iO,IH];rw [List.nodup_append];refine ⟨se T b n,?_,?_⟩
  ·split<;>simp
  ·intro a ha c hc;obtain ⟨x,hx,rfl⟩:=II.1 ha;obtain ⟨k,hk,_,_,rfl⟩:=iU.1 hx;obtain ⟨y,hy,rfl⟩:=II.1 hc
   split at hy
   ·simp at hy;subst hy;simp;omega
   ·simp at hy
theorem iS (T:List Sl) (b:Int):(dt T b).Nodup:=se T b _
theorem Ec {P:Wd×List Out} (h:GwMay P.1) (b:Int) (j:Nat):Ad P (mK P b j) ((dt P.1.tab b).take j):=by
 refine wL _ _ h ((List.take_sublist _ _).nodup (iS _ _)) fun s hs=>?_;obtain ⟨f,hf,_,hfs⟩:=(jf h).1 (List.mem_of_mem_take hs);exact ⟨f,hf,hfs⟩
structure Ac (P Q:Wd×List Out) (L:List Lf):Prop where
 gw:GwMay Q.1
 now:Q.1.now=P.1.now
 fl:∀ f∈Q.1.flows,f∈P.1.flows
 lv:∀ x∈Q.1.lives,x.state=3→x∈P.1.lives
 ou:Q.2.length+2*Q.1.flows.length≤P.2.length+2*P.1.flows.length
 no:∀ x∈L,x.state=3→x.until_≤P.1.now→∀ f∈Q.1.flows,f.backend≠x.backend
theorem sD {P:Wd×List Out} (h:GwMay P.1) (x:Lf):Ac P (eO P x) [x]:=by
 unfold eO;by_cases hc:x.state≠3∨P.1.now<x.until_
 ·rw [if_pos hc];refine ⟨h,rfl,fun _ h=>h,fun _ h _=>h,Ij _,fun y hy h3 hu=>?_⟩;simp only [List.mem_singleton] at hy;subst hy;omega
 ·rw [if_neg hc];have h1:=Ec h x.backend (dt P.1.tab x.backend).length;unfold mK at h1;rw [js,List.take_length] at h1;refine ⟨h1.gw,h1.now,fun f hf=>((h1.fl f).1 hf).1,h1.lv,h1.ou,fun y hy h3 hu f hf e=>?_⟩;simp only [List.mem_singleton] at hy;subst hy;have h2:=(h1.fl f).1 hf;exact h2.2 ((jf h).2 ⟨f,h2.1,e,rfl⟩)
theorem lW:∀ (L:List Lf) (P:Wd×List Out),GwMay P.1→Ac P (L.foldl eO P) L
 | [],P,h=>⟨h,rfl,fun _ h=>h,fun _ h _=>h,Ij _,fun _ hx=>by simp at hx⟩
 | x :: L,P,h=>by
  have h1:=sD h x;have h2:=lW L (eO P x) h1.gw;rw [List.foldl_cons];refine ⟨h2.gw,h2.now.trans h1.now,fun f hf=>h1.fl f (h2.fl f hf),fun y hy h3=>h1.lv y (h2.lv y hy h3) h3,IG h2.ou h1.ou,fun y hy h3 hu f hf=>?_⟩;rcases List.mem_cons.1 hy with rfl|hy
  ·exact h1.no y (ID ..) h3 hu f (h2.fl f hf)
  ·exact h2.no y hy h3 (by rw [h1.now];exact hu) f hf
theorem Fq {X:Wd} (h:WdMay X) (hn:X.now<1099511626776) (k:Nat):Ac (ca X) (dX X k) ((ca X).1.lives.take k):=lW _ _ (kT h hn).gw
theorem uG {X:Wd} (h:WdMay X) (hn:X.now<1099511626776):Ac (ca X) (gX X) (ca X).1.lives:=lW _ _ (kT h hn).gw
theorem Fp {X:Wd} (h:WdMay X) (hn:X.now<1099511626776):(ca X).2.length+2*(ca X).1.flows.length≤160:=by
 have h1:=kT h hn;have h2:=h1.ou;have h3:=D6 h.gw;have h4:=h1.gw.len;simp only [List.length_nil] at h2;omega
theorem zd {X:Wd} (h:WdMay X) (hn:X.now<1099511626776):WdMay (gX X).1∧(gX X).1.now=X.now+1:=by
 have h1:=kT h hn;have h2:=uG h hn;have h3:=iR X;have e3:(ca X).1.now=X.now+1:=h1.now.trans h3.2.1;have e4:(gX X).1.now=X.now+1:=h2.now.trans e3;refine ⟨⟨h2.gw,fun f hf=>?_,fun x hx hs=>?_⟩,e4⟩
 ·rw [e4];rcases h1.fl f (h2.fl f hf) with ⟨g1,g2⟩|g
  ·rw [h3.1] at g1;have d1:=h.du f g1;have d2:f.due≠X.now+1:=fun e=>g2 ((oX h.gw).2 ⟨f,g1,e,rfl⟩);omega
  ·simp only at g;rw [h3.2.1] at g;exact g
 ·rw [e4];refine Classical.byContradiction fun g=>?_;have hx3:=h2.lv x hx hs;obtain ⟨f,hf,hfb⟩:=h2.gw.dr x hx hs;exact h2.no x hx3 hs (by rw [e3];omega) f hf hfb
theorem xz {X:Wd} (h:bF X.lives X.reqs):(dq X).Nodup:=by
 rw [yU,List.nodup_iff_pairwise_ne,List.pairwise_map];exact ((bZ h).filter _).imp fun {a b} hab=>by omega
theorem F2 {L:List Lf} {R:List Rq} (h:bF L R) (b:Int):0≤oz L b∧oz L b≤8:=by
 unfold oz
 cases hl:cW L b with
 | none=>simp
 | some x=>
  have:=dz h (dj hl).1;simp only [Option.map_some,IJ];exact ⟨by have:=this.2.2.1;omega,this.2.2.2.1⟩
theorem Fo {X:Wd} (h:GwMay X) (hn:X.now<1099511626776) {k:Nat} (hk:k<(dq X).length):0≤(dq X).getD k 0∧(dq X).getD k 0≤11∧(∃ x,cW (bL X).lives ((dq X).getD k 0)=some x∧1≤x.weight∧x.weight≤8)∧RgMay (fx X k).ring∧(fx X k).lives=(bL X).lives∧(fx X k).health.length=12∧(ge (fx X k).ring).getD ((dq X).getD k 0).toNat 0=0:=by
 have n0:=h.n0;have hbk:bF (bL X).lives X.reqs:=En (by omega) (by omega) h.bk
 have hm:(dq X).getD k 0∈dq X:=by rw [aK hk];exact Iw hk
 have hbd:=sV h.bk hm;have hs:=(mb h.bk).1 hm;have hno:=qp (xz h.bk) hk;generalize (dq X).getD k 0=y at hm hbd hs hno ⊢;have hW:=pi ((dq X).take k) (bL X) (dK X.lives) (cA _) h.rg;have hl:(((dq X).take k).foldl (yT (bL X).lives) (dK X.lives)).length=12:=by rw [sS,cA]
 have hpos:∀ z∈(dq X).take k,0≤z:=fun z hz=>(sV h.bk (List.mem_of_mem_take hz)).1;have hb12:y.toNat<12:=by omega
 have hyn:((y.toNat:Nat):Int)=y:=by omega
 have e:fx X k=((dq X).take k).foldl gj (bL X):=rfl;rw [← e] at hW;refine ⟨hbd.1,hbd.2,?_,?_,hW.2.1,?_,?_⟩
 ·obtain ⟨x,hx,rfl,hx1⟩:=mf hs (by decide);have hl1:=gI (bZ h.bk) hx;have hb1:=dz h.bk hx;refine ⟨Lf.wk (X.now+1) x,by show cW (X.lives.map (Lf.wk (X.now+1))) _=_;rw [mt,hl1];rfl,?_⟩
  have hw:(Lf.wk (X.now+1) x).weight=x.weight:=by unfold Lf.wk;by_cases g:x.state=1<;>simp [g]
  rw [hw];exact ⟨hb1.2.2.1,hb1.2.2.2.1⟩
 ·rw [hW.1];refine pN hl fun b=>?_;by_cases hb:b<12
  ·rw [oP _ hb _ _ (cA _) hpos]
   split
   ·have:=F2 hbk b;omega
   ·exact zw h.bk b
  ·rw [show (((dq X).take k).foldl (yT (bL X).lives) (dK X.lives)).getD b 0=0 by simp only [List.getD];rw [IB (by omega)];rfl];omega
 ·rw [hW.2.2];exact h.hl
 ·rw [hW.1,iz hl,oP _ hb12 _ _ (cA _) hpos,hyn,if_neg hno,fc _ hb12,hyn];unfold gp at hs
  cases hlf:cW X.lives y with
  | none=>rfl
  | some x=>
   rw [hlf] at hs;simp only [Option.map_some,IJ] at hs;simp only;rw [if_neg (by omega)]
theorem Ck {X:Wd} (h:WdMay X) (hn:X.now<1099511626776):zT X:=by
 have g:=h.gw;have n0:=g.n0;have ho:=Fp h hn;refine { wh:=g.wh,wn:=g.wn,n0:=n0,n1:=hn,bk:=g.bk,bk2:=En (by omega) (by omega) g.bk,hl:=g.hl,hl1:=by rw [uI];exact g.hl,wo:=fun k hk=>Fo g hn hk,ba:=fun i hi=>Ft g hn hi,du:=?_,b3:=(kT h hn).gw.bk,dr:=?_ }
 ·intro k hk;have h1:=E6 h hn k
  have hm:(ey X).getD k 0∈ey X:=by rw [aK hk];exact Iw hk
  obtain ⟨f,hf,_,hfs⟩:=(oX g).1 hm;have hno:=qp (nv g) hk;refine ⟨h1.gw,jr h1.gw ⟨f,h1.ke f (by rw [(iR X).1];exact hf) (by rw [hfs];exact hno),hfs⟩,?_⟩;have h2:=h1.ou;have h3:=D6 g;simp only [List.length_nil,Iz] at h2;omega
 ·intro k hk h3 hu;have h1:=Fq h hn k;have ho1:=h1.ou;refine ⟨h1.gw.tb,fun j hj=>?_⟩;have h2:=Ec h1.gw ((ca X).1.lives.getD k Lf.zero).backend j
  have hm:(dt (dX X k).1.tab ((ca X).1.lives.getD k Lf.zero).backend).getD j 0∈dt (dX X k).1.tab ((ca X).1.lives.getD k Lf.zero).backend:=by rw [aK hj];exact Iw hj
  obtain ⟨f,hf,_,hfs⟩:=(jf h1.gw).1 hm;have hno:=qp (iS _ _) hj;refine ⟨h2.gw,jr h2.gw ⟨f,(h2.fl f).2 ⟨hf,by rw [hfs];exact hno⟩,hfs⟩,?_⟩;have ho2:=h2.ou;omega
end
end Go.Proofs.YtocbhafgjepnjaaGreat
