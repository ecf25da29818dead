/- Texts of the row's proof. Conditions: none. -/
import Derived.Test.YtennppmadmgfoaaGreatDoorK32
namespace Go.Proofs.YtennppmadmgfoaaGreatDoor
set_option maxRecDepth 100000
set_option maxHeartbeats 8000000
section
open Go.RowKit
def vy (T:List Sl) (h z:Int):Int:=if h<0\/(T.length:Int)<=h then 8 else if (T.getD h.toNat Sl.zero).used=true/\(T.getD h.toNat Sl.zero).gen=z then 0 else 10
theorem Gs {T:List Sl} (I:dR T) (z E:Int):∃ o,oY T z E o (vy T z E):=by
 unfold vy;by_cases h1:z<0\/(T.length:Int)<=z
 ·rw [if_pos h1];exact ⟨Sl.zero,Or.inr (Or.inl ⟨I,by omega,rfl,rfl⟩)⟩
 ·rw [if_neg h1];obtain ⟨h,rfl⟩:=Lr (by omega:0<=z);rw [Lm];by_cases h2:(T.getD h Sl.zero).used=true/\(T.getD h Sl.zero).gen=E
  ·rw [if_pos h2];exact ⟨_,Or.inr (Or.inr ⟨I,h,by omega,rfl,Or.inl ⟨h2.1,h2.2,rfl,rfl⟩⟩)⟩
  ·rw [if_neg h2];refine ⟨Sl.zero,Or.inr (Or.inr ⟨I,h,by omega,rfl,Or.inr ⟨?_,rfl,rfl⟩⟩)⟩
   cases hu:(T.getD h Sl.zero).used with
   | false=>exact Or.inl rfl
   | true=>exact Or.inr ⟨rfl,fun J=>h2 ⟨hu,J⟩⟩
def fj (X:Wd) (h:Int):Nat:=(aU (nF h) X.flows).toNat
theorem Ag {X:Wd} (I:GwMay X) {sl gn:Int} (h:vy X.tab sl gn=0):aU (nF sl) X.flows=(fj X sl:Int)/\fj X sl<X.flows.length/\(X.flows.getD (fj X sl) Fl.zero).slot=sl/\(X.flows.getD (fj X sl) Fl.zero).gen=gn:=by
 unfold vy at h;by_cases h1:sl<0\/(X.tab.length:Int)<=sl
 ·rw [if_pos h1] at h;omega
 ·rw [if_neg h1] at h;by_cases h2:(X.tab.getD sl.toNat Sl.zero).used=true/\(X.tab.getD sl.toNat Sl.zero).gen=gn
  ·obtain ⟨E,Y,hs⟩:=I.us sl.toNat (by omega) h2.1;have a0:E.slot=sl:=by omega
   rcases bM (nF sl) X.flows Fl.zero with ⟨_,hn⟩|⟨i,z,K,hp,_⟩
   ·have:=hn E Y;simp [nF,a0] at this
   ·have W:fj X sl=i:=by unfold fj;rw [K];simp
    rw [W];have U:(X.flows.getD i Fl.zero).slot=sl:=by simpa [nF] using hp
    have Z:X.flows.getD i Fl.zero∈X.flows:=by rw [aQ z];exact Lp z
    have J:=(I.fl _ Z).sl;rw [U] at J;exact ⟨K,z,U,by rw [<- h2.2,J]⟩
  ·rw [if_neg h2] at h;omega
def j6 (X:Wd) (i:Nat):Wd:={ X with flows:=X.flows.set i { X.flows.getD i Fl.zero with serving:=true } }
def nv (X:Wd) (i:Nat):Wd:={ X with flows:=X.flows.set i { X.flows.getD i Fl.zero with due:=X.now+X.cf.idle },lists:=jP X.now X.lists (X.flows.getD i Fl.zero).slot X.cf.idle }
def fx (X:Wd) (e:Ev):Wd×List Out:=
 if vy X.tab e.slot e.gen≠0 then (X,[⟨10,0,0,0,0,vy X.tab e.slot e.gen,0⟩])
 else if e.kind=3 then gV X (fj X e.slot) 7 0
 else if e.kind=2 then (if (X.flows.getD (fj X e.slot) Fl.zero).serving=true then nv X (fj X e.slot) else X,[⟨3,e.slot,e.gen,(X.flows.getD (fj X e.slot) Fl.zero).backend,0,0,0⟩])
 else if (X.flows.getD (fj X e.slot) Fl.zero).serving=true then (X,[⟨10,0,0,0,0,7,0⟩])
 else if e.good=true then (nv (ce (j6 X (fj X e.slot)) (X.flows.getD (fj X e.slot) Fl.zero).backend.toNat false) (fj X e.slot),[⟨4,e.slot,e.gen,(X.flows.getD (fj X e.slot) Fl.zero).backend,0,0,0⟩])
 else fg X (fj X e.slot) 3
def bP (X:Wd):Wd:={ X with now:=X.now+1,wnow:=X.now+1,lists:=bN (X.now+1) (X.lists.flatten.filter fun t=>decide (X.now+1<t.at_)),lives:=X.lives.map (Lf.wk (X.now+1)) }
def eU (X:Wd):List Int:=(iL (X.lists.flatten.filter fun t=>t.at_ == X.now+1)).map Tm.id
def dy (X:Wd):List Int:=me X.lives X.lives.length
def pM (L:List Lf) (y:Int):Int:=((dJ L y).map Lf.weight).getD 0
def gD (X:Wd) (y:Int):Wd:={ X with ring:=bR ((gx X.ring).set y.toNat (pM X.lives y).toNat),health:=X.health.set y.toNat Ht.zero }
def fL (X:Wd) (k:Nat):Wd:=((dy X).take k).foldl gD (bP X)
def cE (X:Wd):Wd:=(dy X).foldl gD (bP X)
theorem qD:∀ (L:List Int) (P:Wd),(L.foldl gD P).reqs=P.reqs/\(L.foldl gD P).cf=P.cf/\(L.foldl gD P).now=P.now
 | [],_=>⟨rfl,rfl,rfl⟩
 | y :: L,P=>qD L (gD P y)
theorem J5 {L:List Lf} {R:List Rq} {b:Int} {x:Lf} (J:bJ L R) (z:dJ L b=some x):yW L R b x 0:=by
 rcases bM (cM b) L Lf.zero with ⟨h,_⟩|⟨I,E,h,_⟩
 ·rw [(fP L b).1 h] at z
  cases z
 ·have:=(fP L b).2 I h E;rw [z] at this;exact Or.inr (Or.inr ⟨J,⟨I,E,h,Option.some.inj this⟩,rfl⟩)
def fQ (now:Int) (h:Ht):Ht:=if h.out=true/\h.until_<=now then { h with out:=false,until_:=0 } else h
def gC (X:Wd) (k:Nat):Wd:={ X with health:=(X.health.take k).map (fQ X.now)++X.health.drop k }
def j5 (X:Wd):Wd:={ cE X with health:=(cE X).health.map (fQ (cE X).now) }
def mH (P:Wd×List Out) (slot:Int):Wd×List Out:=
 if (P.1.flows.getD (fj P.1 slot) Fl.zero).serving=true then ((gV P.1 (fj P.1 slot) 6 1).1,P.2++(gV P.1 (fj P.1 slot) 6 1).2)
 else ((fg P.1 (fj P.1 slot) 5).1,P.2++(fg P.1 (fj P.1 slot) 5).2)
def gc (X:Wd) (k:Nat):Wd×List Out:=((eU X).take k).foldl mH (j5 X,[])
def ci (X:Wd):Wd×List Out:=(eU X).foldl mH (j5 X,[])
def pW (P:Wd×List Out) (slot:Int):Wd×List Out:=((gV P.1 (fj P.1 slot) 6 2).1,P.2++(gV P.1 (fj P.1 slot) 6 2).2)
def dO (T:List Sl) (b:Int):List Int:=(j8 T b T.length).map Hd.slot
def gp (P:Wd×List Out) (x:Lf):Wd×List Out:=if x.state≠3\/P.1.now<x.until_ then P else (dO P.1.tab x.backend).foldl pW P
def dZ (X:Wd) (k:Nat):Wd×List Out:=((ci X).1.lives.take k).foldl gp (ci X)
def jk (X:Wd):Wd×List Out:=(ci X).1.lives.foldl gp (ci X)
def nN (P:Wd×List Out) (b:Int) (j:Nat):Wd×List Out:=((dO P.1.tab b).take j).foldl pW P
theorem lH {α β:Type} (f:β->α->β) (b:β) (L:List α) (d:α) {k:Nat} (h:k<L.length):(L.take (k+1)).foldl f b=f ((L.take k).foldl f b) (L.getD k d):=by
 rw [Li h,List.foldl_append,aQ h]
 rfl
theorem jw {α β:Type} (f:β->α->β) (b:β) (L:List α):(L.take L.length).foldl f b=L.foldl f b:=by rw [Lo (KY _)]
theorem Ap (X:Wd) {k:Nat} (h:k<X.health.length):(gC X (k+1)).health=(gC X k).health.set k (fQ X.now (X.health.getD k Ht.zero)):=by
 unfold gC;simp only;rw [Li h,aQ h]
 have E:((X.health.take k).map (fQ X.now)).length=k:=by simp;omega
 have z:X.health.drop k=X.health[k] :: X.health.drop (k+1):=(List.getElem_cons_drop h).symm;rw [List.set_append_right k _ (by omega),E,Nat.sub_self,z];simp only [LG,List.map_cons,List.map_nil,List.append_assoc,List.singleton_append,List.set_cons_zero]
theorem Hf (X:Wd) {k:Nat} (z:k<X.health.length):(gC X k).health.getD k Ht.zero=X.health.getD k Ht.zero:=by
 unfold gC;simp only
 have h:((X.health.take k).map (fQ X.now)).length=k:=by simp;omega
 simp only [List.getD];rw [LU (by omega),h,Nat.sub_self,List.getElem?_drop];simp
theorem DK (X:Wd) (k:Nat):(gC X k).health.length=X.health.length:=by unfold gC;simp;omega
def gN (X:Wd) (h:Int):Prop:=aU (nF h) X.flows=(fj X h:Int)/\fj X h<X.flows.length
structure BL (X:Wd):Prop where
 wh:WhMay X.now X.lists
 wn:X.wnow=X.now
 n0:0<=X.now
 n1:X.now<1099511626776
 bk:bJ X.lives X.reqs
 bk2:bJ (bP X).lives X.reqs
 hl:X.health.length=12
 hl1:(cE X).health.length=12
 wo:∀ k,k<(dy X).length->0<=(dy X).getD k 0/\(dy X).getD k 0<=11/\(∃ x,dJ (bP X).lives ((dy X).getD k 0)=some x/\1<=x.weight/\x.weight<=8)/\RgMay (fL X k).ring/\(fL X k).lives=(bP X).lives/\(fL X k).health.length=12/\(gx (fL X k).ring).getD ((dy X).getD k 0).toNat 0=0
 ba:∀ i,i<12->gv X.cf.ww X.cf.wf X.cf.wh ((cE X).health.getD i Ht.zero).marks.length ((cE X).health.getD i Ht.zero).out ((cE X).health.getD i Ht.zero).until_ ((cE X).health.getD i Ht.zero).times (X.now+1) 0
 du:∀ k,k<(eU X).length->GwMay (gc X k).1/\gN (gc X k).1 ((eU X).getD k 0)/\(gc X k).2.length<=1000
 b3:bJ (ci X).1.lives (ci X).1.reqs
 dr:∀ k,k<(ci X).1.lives.length->((ci X).1.lives.getD k Lf.zero).state=3->((ci X).1.lives.getD k Lf.zero).until_<=(dZ X k).1.now->dR (dZ X k).1.tab/\∀ j,j<(dO (dZ X k).1.tab ((ci X).1.lives.getD k Lf.zero).backend).length->
  GwMay (nN (dZ X k) ((ci X).1.lives.getD k Lf.zero).backend j).1/\gN (nN (dZ X k) ((ci X).1.lives.getD k Lf.zero).backend j).1 ((dO (dZ X k).1.tab ((ci X).1.lives.getD k Lf.zero).backend).getD j 0)/\(nN (dZ X k) ((ci X).1.lives.getD k Lf.zero).backend j).2.length<=1000
theorem BI (c:Cf) (h:Ht) (now:Int) (z:gv c.ww c.wf c.wh h.marks.length h.out h.until_ h.times now 0):∃ E,Cb c.ww c.wf c.wh h.marks h.out h.until_ h.times now (fQ now h).marks (fQ now h).out (fQ now h).until_ (fQ now h).times E 0:=by
 unfold fQ;by_cases hc:h.out=true/\h.until_<=now
 ·rw [if_pos hc];exact ⟨true,z,Or.inr (Or.inl ⟨rfl,hc.1,hc.2,rfl,rfl,rfl,rfl,rfl⟩)⟩
 ·rw [if_neg hc];refine ⟨false,z,Or.inr (Or.inr ⟨rfl,?_,rfl,rfl,rfl,rfl,rfl⟩)⟩
  cases ho:h.out with
  | false=>exact Or.inl rfl
  | true=>exact Or.inr ⟨rfl,by rw [ho] at hc;simp at hc;exact hc⟩
theorem He (X:Wd) {n:Nat} (h:X.health.length=n):gC X n={ X with health:=X.health.map (fQ X.now) }:=by
 unfold gC;rw [<- h];simp
theorem back_0 (X:Wd):gC X 0=X:=by unfold gC;simp
theorem DX (X:Wd):(dy X).length<=X.lives.length:=by unfold dy me;rw [Lh];exact Lz (List.length_filter_le _ _) (List.length_take_le _ _)
theorem xG (X:Wd):(eU X).length<=X.lists.flatten.length:=by unfold eU;rw [Lh,(dp _).length_eq];exact List.length_filter_le _ _
theorem AM (now:Int) (x:Lf):(Lf.wk now x).backend=x.backend:=by unfold Lf.wk;by_cases h:x.state=1<;>simp [h]
theorem qr (now b:Int):∀ L:List Lf,dJ (L.map (Lf.wk now)) b=(dJ L b).map (Lf.wk now)
 | []=>rfl
 | a :: L=>by
  rw [List.map_cons,gK,gK,AM,qr now b L];by_cases h:a.backend=b
  ·rw [if_pos h,if_pos h]
   rfl
  ·rw [if_neg h,if_neg h]
theorem wk_may {now:Int} (h0:0<=now) (h1:now<=1099511627776) {x:Lf} (h:eG x):eG (Lf.wk now x):=by
 obtain ⟨a1,a2,a3,a4,a5,a6,a7,a8,a9,a10,hs⟩:=h;unfold Lf.wk;by_cases e:x.state=1
 ·rw [if_pos e];have:x.until_=0/\x.request=0:=by omega
  exact ⟨a1,a2,a3,a4,h0,h1,a7,a8,a9,a10,Or.inr (Or.inl ⟨rfl,this.1,this.2⟩)⟩
 ·rw [if_neg e];exact ⟨a1,a2,a3,a4,a5,a6,a7,a8,a9,a10,hs⟩
theorem GX {now:Int} (z:0<=now) (E:now<=1099511627776) {L:List Lf} {R:List Rq} (h:bJ L R):bJ (L.map (Lf.wk now)) R:=by
 refine Kx (fun Y J=>?_) ?_ h.2.1 h.2.2.2.1 h.2.2.2.2
 ·obtain ⟨Z,K,rfl⟩:=LH.1 J;exact wk_may z E (eZ h K)
 ·rw [List.pairwise_map]
  exact (cU h).imp fun {U W} I=>by rw [AM,AM];exact I
theorem stB_wk (now b:Int) (L:List Lf):i8 (L.map (Lf.wk now)) b=if i8 L b=1 then 2 else i8 L b:=by
 unfold i8;exact Q105
def AG (L:List Lf) (ws:List Nat) (y:Int):List Nat:=ws.set y.toNat (pM L y).toNat
theorem uq (L:List Lf):∀ (Y:List Int) (ws:List Nat),(Y.foldl (AG L) ws).length=ws.length
 | [],_=>rfl
 | y :: Y,ws=>by rw [List.foldl_cons,uq L Y];simp [AG]
theorem qB:∀ (z:List Int) (P:Wd) (ws:List Nat),ws.length=12->P.ring=bR ws->(z.foldl gD P).ring=bR (z.foldl (AG P.lives) ws)/\(z.foldl gD P).lives=P.lives/\(z.foldl gD P).health.length=P.health.length
 | [],_,_,_,h=>⟨h,rfl,rfl⟩
 | y :: z,P,ws,hl,h=>by
  rw [List.foldl_cons,List.foldl_cons]
  have I:(gD P y).ring=bR (AG P.lives ws y):=by
   unfold gD AG;simp only;rw [h,iM hl]
  have E:=qB z (gD P y) (AG P.lives ws y) (by simp [AG,hl]) I;refine ⟨E.1,E.2.1,E.2.2.trans ?_⟩;simp [gD]
theorem qd (L:List Lf) {b:Nat} (z:b<12):∀ (h:List Int) (ws:List Nat),ws.length=12->(∀ y∈h,0<=y)->(h.foldl (AG L) ws).getD b 0=if (b:Int)∈h then (pM L b).toNat else ws.getD b 0
 | [],ws,_,_=>by simp
 | y :: h,ws,hl,h0=>by
  have J:=h0 y (Lw ..);rw [List.foldl_cons,qd L z h _ (by simp [AG,hl]) (fun I E=>h0 I (Ly _ E))];by_cases h1:(b:Int)∈h
  ·rw [if_pos h1,if_pos (Ly _ h1)]
  ·rw [if_neg h1];unfold AG;by_cases h2:(b:Int)=y
   ·subst h2;rw [if_pos (Lw ..),Lm,cR (by omega),if_pos rfl]
   ·rw [if_neg (by simp [h1,h2])];by_cases h3:y.toNat<ws.length
    ·rw [cR h3,if_neg (by omega)]
    ·rw [List.set_eq_of_length_le (by omega)]
theorem AH (X:Wd):dy X=(X.lives.filter fun x=>decide (x.state=1)).map Lf.backend:=by unfold dy me;rw [Lo (KY _)]
theorem mO {X:Wd} (K:bJ X.lives X.reqs) {b:Int}:b∈dy X↔i8 X.lives b=1:=by
 rw [AH];constructor
 ·intro E;obtain ⟨I,h,rfl⟩:=LH.1 E;obtain ⟨h,z⟩:=List.mem_filter.1 h;rw [qM (cU K) h];simpa using z
 ·intro E;obtain ⟨I,h,J,z⟩:=mR E (by decide);exact LH.2 ⟨I,List.mem_filter.2 ⟨h,by simpa using z⟩,J⟩
theorem ut {X:Wd} (h:bJ X.lives X.reqs) {b:Int} (z:b∈dy X):0<=b/\b<=11:=by
 obtain ⟨I,E,rfl,_⟩:=mR ((mO h).1 z) (by decide);have:=eZ h E;exact ⟨this.1,this.2.1⟩
theorem Ia (now b:Int) (L:List Lf):pM (L.map (Lf.wk now)) b=pM L b:=by
 unfold pM;exact Q105
theorem J4 {X:Wd} (h:bJ X.lives X.reqs) (now:Int):(dy X).foldl (AG (X.lives.map (Lf.wk now))) (dQ X.lives)=dQ (X.lives.map (Lf.wk now)):=by
 have K:((dy X).foldl (AG (X.lives.map (Lf.wk now))) (dQ X.lives)).length=12:=by rw [uq,cI]
 refine List.ext_getElem (by rw [K,cI]) fun z J U=>?_;have E:z<12:=by omega
 rw [<- aQ J 0,<- aQ U 0,qd _ E _ _ (cI _) (fun Y W=>(ut h W).1),ft _ E,ft _ E,qr,Ia];by_cases hw:(z:Int)∈dy X
 ·rw [if_pos hw];have hs:=(mO h).1 hw;unfold i8 at hs;unfold pM
  cases hl:dJ X.lives (z:Nat) with
  | none=>rw [hl] at hs;simp at hs
  | some x=>
   exact Q142
 ·rw [if_neg hw];have hs:i8 X.lives z≠1:=fun I=>hw ((mO h).2 I);unfold i8 at hs
  cases hl:dJ X.lives (z:Nat) with
  | none=>rfl
  | some x=>
   exact Q142
theorem zh {X:Wd} (h:GwMay X):(cE X).ring=bR (dQ (cE X).lives):=by
 have z:=qB (dy X) (bP X) (dQ X.lives) (cI _) h.rg;unfold cE;rw [z.1,z.2.1]
 congr 1
 exact J4 h.bk _
theorem gb (now:Int) (A B:List Fl):ez now (A++B)=ez now A++ez now B:=by simp [ez]
theorem ux {now s:Int} {A:List Fl} (h:∀ g∈A,g.slot≠s):(ez now A).filter (fun t=>!(t.id == s))=ez now A:=by
 refine List.filter_eq_self.2 fun t E=>?_;obtain ⟨g,z,rfl⟩:=LH.1 E;have:=h g (List.mem_filter.1 z).1;simpa [o9] using this
theorem Io {now:Int} {f:Fl}:(ez now [f]).filter (fun t=>!(t.id == f.slot))=[]:=by
 refine List.filter_eq_nil_iff.2 fun t z=>?_;obtain ⟨E,h,rfl⟩:=LH.1 z;have:=(List.mem_filter.1 h).1;simp at this;subst this;simp [o9]
structure Around (F:List Fl) (i:Nat) (A:List Fl) (f:Fl) (B:List Fl):Prop where
 eq:F=A++f :: B
 len:A.length=i
 ne:∀ g∈A++B,g.slot≠f.slot
 so:(A++B).Pairwise fun a b=>a.slot<b.slot
theorem sj {F:List Fl} (z:F.Pairwise fun a b=>a.slot<b.slot) {i:Nat} (J:i<F.length):Around F i (F.take i) (F.getD i Fl.zero) (F.drop (i+1)):=by
 have E:F=F.take i++F.getD i Fl.zero :: F.drop (i+1):=by
  conv=>lhs;rw [<- Lx i F]
  rw [aQ J,List.getElem_cons_drop]
 refine ⟨E,by rw [Ls];omega,fun I h=>?_,?_⟩
 ·rw [E,List.pairwise_append,List.pairwise_cons] at z;rcases List.mem_append.1 h with h|h
  ·have:=z.2.2 I h _ (Lw ..);omega
  ·have:=z.2.1.1 I h;omega
 ·rw [E] at z;refine z.sublist ?_;exact List.Sublist.append (List.Sublist.refl _) (List.sublist_cons_self _ _)
theorem Around.mem {F A B:List Fl} {i:Nat} {f g:Fl} (h:Around F i A f B):g∈F↔g=f\/g∈A++B:=by
 rw [h.eq];simp only [List.mem_append,List.mem_cons];constructor
 ·exact Q147
 ·exact Q147
theorem BE {X:Wd} (J:GwMay X) {i:Nat} {A B:List Fl} {f:Fl} (z:Around X.flows i A f B):(X.lists.flatten.filter fun t=>!(t.id == f.slot)).Perm (ez X.now (A++B)):=by
 refine (J.whp.filter _).trans ?_
 have I:X.flows=A++([f]++B):=by rw [z.eq];rfl
 rw [I,gb,gb,gb,List.filter_append,List.filter_append,ux (fun h E=>z.ne h (List.mem_append_left _ E)),ux (fun h E=>z.ne h (List.mem_append_right _ E)),Io];exact List.Perm.refl _
theorem GB {X:Wd} (h:GwMay X) {i:Nat} (hi:i<X.flows.length):GwBut (jy X i (eQ X.tab (X.flows.getD i Fl.zero))) (X.flows.getD i Fl.zero).backend:=by
 have z:=sj h.so hi;generalize hA:X.flows.take i=A at z;generalize hB:X.flows.drop (i+1)=B at z;generalize hf:X.flows.getD i Fl.zero=J at z;have Y:J∈X.flows:=z.mem.2 (Or.inl rfl);have W:=h.fl J Y;have a3:=W.s0;have a4:=W.s1
 have hd:jy X i (eQ X.tab J)={ X with flows:=A++B,tab:=eQ X.tab J,lists:=DI X.now X.lists J.slot }:=by unfold jy;rw [hA,hB,hf]
 rw [hd];have a1:J.slot.toNat<X.tab.length:=by omega
 refine { cf:=h.cf,n0:=h.n0,n1:=h.n1,tb:=h.tabd Y,tl:=?_,bk:=h.bk,hl:=h.hl,ht:=h.ht,ho:=h.ho,t0:=h.t0,t1:=h.t1,rg:=h.rg,wn:=h.wn,wl:=?_,so:=z.so,fl:=fun K E=>?_,us:=?_,dr:=?_,si:=h.si }
 ·simp only [eQ,Lq];exact h.tl
 ·simp only [DI];exact fN (BE h z)
 ·have I:=h.fl K (z.mem.2 (Or.inr E));have a0:=z.ne K E;have g0:=I.s0;refine ⟨I.s0,by simp only [eQ,Lq];exact I.s1,?_,I.r0,I.r1,I.st,I.d0,I.d1⟩;simp only [eQ];rw [cR a1,if_neg (by omega)];exact I.sl
 ·intro s hs U;simp only [eQ,Lq] at hs U;rw [cR a1] at U;by_cases e:J.slot.toNat=s
  ·rw [if_pos e] at U
   cases U
  ·rw [if_neg e] at U;obtain ⟨K,E,a2⟩:=h.us s hs U;rcases z.mem.1 E with rfl|E
   ·omega
   ·exact ⟨K,E,a2⟩
 ·intro x hx h3 a0;obtain ⟨K,E,Z⟩:=h.dr x hx h3;rcases z.mem.1 E with rfl|E
  ·exact absurd Z.symm a0
  ·exact ⟨K,E,Z⟩
theorem nJ {X:Wd} (h:GwMay X) {i:Nat} (z:i<X.flows.length) (k y:Int):GwMay (gV X i k y).1:=mj (GB h z)
theorem Around.set {F A B:List Fl} {i:Nat} {f:Fl} (h:Around F i A f B) (g:Fl):F.set i g=A++g :: B:=by
 rw [h.eq,List.set_append_right i g (by rw [h.len];exact KY _),h.len,Nat.sub_self,List.set_cons_zero]
theorem Around.so' {F A B:List Fl} {i:Nat} {f g:Fl} (E:Around F i A f B) (I:F.Pairwise fun a b=>a.slot<b.slot) (J:g.slot=f.slot):(A++g :: B).Pairwise fun a b=>a.slot<b.slot:=by
 have z:(A++g :: B).map Fl.slot=F.map Fl.slot:=by rw [E.eq];simp [J]
 have h:(F.map Fl.slot).Pairwise (fun a b=>a<b):=List.pairwise_map.2 I;rw [<- z] at h;exact List.pairwise_map.1 h
theorem AS {now:Int} {g:Fl} (h:now<g.due):ez now [g]=[o9 g]:=by simp [ez,h]
theorem Jr {X:Wd} (z:GwMay X) {i:Nat} {A B:List Fl} {f g:Fl} (E:Around X.flows i A f B) {span:Int} (J:g.slot=f.slot) (I:g.due=X.now+span) (K:1<=span):jP X.now X.lists f.slot span=bN X.now (ez X.now (A++g :: B)):=by
 unfold jP;refine fN ?_;have h:A++g :: B=A++([g]++B):=rfl;rw [h,gb,gb,AS (by omega),show o9 g=⟨X.now+span,f.slot⟩ by unfold o9;rw [J,I]];refine ((BE z E).append_right _).trans ?_;rw [gb,List.append_assoc];exact (List.perm_append_comm).append_left _
structure C4 (X:Wd) (f g:Fl) (span:Int):Prop where
 sl:g.slot=f.slot
 gn:g.gen=f.gen
 ky:g.key=f.key
 du:g.due=X.now+span
 s1:1<=span
 s2:span<=500
 r0:0<=g.retries
 r1:g.retries<=X.cf.retries
 st:i8 X.lives g.backend=2\/i8 X.lives g.backend=3
def uh (X:Wd) (i:Nat) (g:Fl) (span tok:Int):Wd:={ X with tok:=tok,tab:=X.tab.set g.slot.toNat ⟨g.gen,true,g.key,g.backend⟩,flows:=X.flows.set i g,lists:=jP X.now X.lists g.slot span }
theorem Eh {L:List Lf} {R:List Rq} (J:bJ L R) {b:Int} (z:i8 L b=2\/i8 L b=3):0<=b/\b<=11:=by
 have:∃ h∈L,h.backend=b:=by
  rcases z with z|z
  ·obtain ⟨h,E,I,_⟩:=mR z (by decide);exact ⟨h,E,I⟩
  ·obtain ⟨h,E,I,_⟩:=mR z (by decide);exact ⟨h,E,I⟩
 obtain ⟨h,E,rfl⟩:=this;have:=eZ J E;exact ⟨this.1,this.2.1⟩
theorem yM {X:Wd} (h:GwMay X) {i:Nat} (hi:i<X.flows.length) {g:Fl} {span Y:Int} (z:C4 X (X.flows.getD i Fl.zero) g span) (h0:0<=Y) (h1:Y<=X.cf.bb*X.cf.bd):GwBut (uh X i g span Y) (X.flows.getD i Fl.zero).backend:=by
 have E:=sj h.so hi;generalize hA:X.flows.take i=A at E;generalize hB:X.flows.drop (i+1)=B at E;generalize hf:X.flows.getD i Fl.zero=Z at E z ⊢;have a1:Z∈X.flows:=E.mem.2 (Or.inl rfl);have a0:=h.fl Z a1;obtain ⟨q,q1,q2,q3,q4,q5,q6,q7,q8,q9⟩:=h.num a1;have a5:=a0.s0;have a6:=a0.s1
 have W:g.slot.toNat<X.tab.length:=by rw [z.sl];omega
 have a8:=Eh h.bk z.st;have a7:=E.set g;unfold uh;rw [a7];refine { cf:=h.cf,n0:=h.n0,n1:=h.n1,tb:=?_,tl:=?_,bk:=h.bk,hl:=h.hl,ht:=h.ht,ho:=h.ho,t0:=h0,t1:=h1,rg:=h.rg,wn:=h.wn,wl:=?_,so:=E.so' h.so z.sl,fl:=fun J hk=>?_,us:=?_,dr:=?_,si:=h.si }
 ·refine qe h.tb _ ?_;unfold dB;simp only [if_true,z.gn,z.ky];omega
 ·simp only [Lq];exact h.tl
 ·simp only;rw [z.sl];exact Jr h E z.sl z.du z.s1
 ·simp only at hk
  have K:J=g\/J∈A++B:=by
   simp only [List.mem_append,List.mem_cons] at hk ⊢;rcases hk with hk|hk|hk
   ·exact Or.inr (Or.inl hk)
   ·exact Or.inl hk
   ·exact Or.inr (Or.inr hk)
  rcases K with rfl|K
  ·refine ⟨by rw [z.sl];exact a5,by simp only [Lq];rw [z.sl];exact a6,?_,z.r0,z.r1,z.st,?_,?_⟩
   ·simp only;rw [cR W,if_pos rfl]
   ·have:=z.du;have:=z.s1;simp only;omega
   ·have:=z.du;have:=z.s2;simp only;omega
  ·have I:=h.fl J (E.mem.2 (Or.inr K));have a3:=E.ne J K;have g0:=I.s0;refine ⟨I.s0,by simp only [Lq];exact I.s1,?_,I.r0,I.r1,I.st,I.d0,I.d1⟩;simp only;rw [cR W,if_neg (by rw [z.sl];omega)];exact I.sl
 ·intro s hs U;simp only [Lq] at hs U;rw [cR W] at U;by_cases e:g.slot.toNat=s
  ·exact ⟨g,by simp,by rw [z.sl] at e ⊢;omega⟩
  ·rw [if_neg e] at U;obtain ⟨J,hk,a4⟩:=h.us s hs U;rcases E.mem.1 hk with rfl|hk
   ·rw [z.sl] at e;omega
   ·refine ⟨J,?_,a4⟩;exact Q116
 ·intro x hx h3 a3;obtain ⟨J,hk,a2⟩:=h.dr x hx h3;rcases E.mem.1 hk with rfl|hk
  ·exact absurd a2.symm a3
  ·refine ⟨J,?_,a2⟩;exact Q116
theorem ug {X:Wd} (I:GwMay X) {i:Nat} (z:i<X.flows.length) {g:Fl} {span h:Int} (W:C4 X (X.flows.getD i Fl.zero) g span) (J:0<=h) (K:h<=X.cf.bb*X.cf.bd) (U:g.backend=(X.flows.getD i Fl.zero).backend):GwMay (uh X i g span h):=
 (yM I z W J K).all fun Y _ _ E=>⟨g,by
  unfold uh;simp only;rw [List.mem_iff_getElem]
  exact ⟨i,by simpa using z,by simp⟩,by rw [U,E]⟩
theorem GwMay.at_ {X:Wd} (_:GwMay X) {i:Nat} (h:i<X.flows.length):X.flows.getD i Fl.zero∈X.flows:=by rw [aQ h];exact Lp h
theorem yu {X:Wd} (h:GwMay X) {i:Nat} (E:i<X.flows.length) (a1:Int):GwMay (fg X i a1).1:=by
 have I:=h.at_ E;obtain ⟨q,q1,q2,q3,q4,q5,q6,q7,q8,q9⟩:=h.num I;have U:=h.fl _ I;have z:=h.noted (b:=(X.flows.getD i Fl.zero).backend.toNat) (by omega) true
 have a2:1<=X.cf.bd:=by have:=h.cf.2.1;unfold io at this;omega
 have a6:=h.t1;unfold fg;simp only;by_cases hc:(X.flows.getD i Fl.zero).retries=X.cf.retries\/X.tok<X.cf.bd
 ·rw [if_pos hc];exact nJ z E _ _
 ·rw [if_neg hc];by_cases hp:(dG (ce X (X.flows.getD i Fl.zero).backend.toNat true) (X.flows.getD i Fl.zero).key.toNat (X.flows.getD i Fl.zero).slot).2≠0
  ·rw [if_pos hp];exact nJ z E _ _
  ·rw [if_neg hp];obtain ⟨x,hx,a0,Z⟩:=uT z (z.butF (f:=X.flows.getD i Fl.zero) I) (Decidable.not_not.1 hp);generalize (dG (ce X (X.flows.getD i Fl.zero).backend.toNat true) (X.flows.getD i Fl.zero).key.toNat (X.flows.getD i Fl.zero).slot).1=b at Z ⊢;have a4:=U.r0;have a5:=U.r1;have a3:=h.cf.1.1;have Y:=qM (cU z.bk) hx;rw [Z,a0] at Y
   have W:C4 (ce X (X.flows.getD i Fl.zero).backend.toNat true) ((ce X (X.flows.getD i Fl.zero).backend.toNat true).flows.getD i Fl.zero) { X.flows.getD i Fl.zero with backend:=b,retries:=(X.flows.getD i Fl.zero).retries+1,due:=X.now+X.cf.connect } X.cf.connect:=
    ⟨rfl,rfl,rfl,rfl,by omega,by omega,by simp only;omega,by simp only [ce];omega,Or.inl Y⟩
   have J:0<=X.tok - X.cf.bd:=by omega
   have K:X.tok - X.cf.bd<=X.cf.bb*X.cf.bd:=by omega
   by_cases e:(X.flows.getD i Fl.zero).backend=b
   ·rw [if_pos e];exact ug z E W J K e.symm
   ·rw [if_neg e];exact mj (yM z E W J K)
theorem tq {α:Type} {L:List α} {i:Nat} (h:i<L.length) {d x:α} (z:L.getD i d=x):L.set i x=L:=by
 rw [aQ h] at z;subst z;exact List.set_getElem_self h
theorem yc {X:Wd} (h:GwMay X) {i:Nat} (E:i<X.flows.length):GwMay (nv X i):=by
 have K:=h.at_ E;have z:=h.fl _ K;have Z:=z.s0;have h1:=z.s1;have a0:=h.cf.1.1;have W:=z.r0;have Y:=z.r1;have U:C4 X (X.flows.getD i Fl.zero) { X.flows.getD i Fl.zero with due:=X.now+X.cf.idle } X.cf.idle:=⟨rfl,rfl,rfl,rfl,by omega,by omega,W,Y,z.st⟩;have J:=ug h E U h.t0 h.t1 rfl
 have I:uh X i { X.flows.getD i Fl.zero with due:=X.now+X.cf.idle } X.cf.idle X.tok=nv X i:=by
  unfold uh nv;simp only;rw [tq (d:=Sl.zero) (by omega) z.sl]
 rw [<- I];exact J
theorem qR {X:Wd} (h:GwMay X) {i:Nat} (hi:i<X.flows.length):GwMay (j6 X i):=by
 have I:=sj h.so hi;unfold j6;generalize hA:X.flows.take i=J at I;generalize hB:X.flows.drop (i+1)=B at I;generalize hf:X.flows.getD i Fl.zero=z at I ⊢;have a2:z∈X.flows:=I.mem.2 (Or.inl rfl);have W:=h.fl z a2;have a3:=I.set { z with serving:=true }
 have Y:∀ E,E∈J++{ z with serving:=true } :: B↔E={ z with serving:=true }\/E∈J++B:=by
  intro E;exact Q60
 rw [a3];refine { cf:=h.cf,n0:=h.n0,n1:=h.n1,tb:=h.tb,tl:=h.tl,bk:=h.bk,hl:=h.hl,ht:=h.ht,ho:=h.ho,t0:=h.t0,t1:=h.t1,rg:=h.rg,wn:=h.wn,wl:=?_,so:=I.so' h.so rfl,fl:=fun E K=>?_,us:=?_,dr:=?_,si:=h.si }
 ·simp only;rw [h.wl,I.eq]
  have e:ez X.now (J++{ z with serving:=true } :: B)=ez X.now (J++z :: B):=by
   rw [show J++{ z with serving:=true } :: B=J++([{ z with serving:=true }]++B) from rfl,show J++z :: B=J++([z]++B) from rfl,gb,gb,gb,gb]
   congr 2
   unfold ez;by_cases hd:X.now<z.due
   ·simp [hd,o9]
   ·simp [hd]
  rw [e]
 ·have Z:E={ z with serving:=true }\/E∈J++B:=(Y E).1 K;rcases Z with rfl|Z
  ·exact ⟨W.s0,W.s1,W.sl,W.r0,W.r1,W.st,W.d0,W.d1⟩
  ·have U:=h.fl E (I.mem.2 (Or.inr Z));exact ⟨U.s0,U.s1,U.sl,U.r0,U.r1,U.st,U.d0,U.d1⟩
 ·intro s hs hu;obtain ⟨E,K,a1⟩:=h.us s hs hu;rcases I.mem.1 K with rfl|K
  ·exact ⟨_,(Y _).2 (Or.inl rfl),a1⟩
  ·exact ⟨E,(Y _).2 (Or.inr K),a1⟩
 ·intro x hx h3;obtain ⟨E,K,a0⟩:=h.dr x hx h3;rcases I.mem.1 K with rfl|K
  ·exact ⟨_,(Y _).2 (Or.inl rfl),a0⟩
  ·exact ⟨E,(Y _).2 (Or.inr K),a0⟩
theorem Gt {X:Wd} (h:GwMay X) (e:Ev):GwMay (fx X e).1:=by
 unfold fx;by_cases hc:vy X.tab e.slot e.gen≠0
 ·rw [if_pos hc];exact h
 ·rw [if_neg hc];obtain ⟨_,z,_,_⟩:=Ag h (Decidable.not_not.1 hc);by_cases h3:e.kind=3
  ·rw [if_pos h3];exact nJ h z _ _
  ·rw [if_neg h3];by_cases h2:e.kind=2
   ·rw [if_pos h2];simp only;by_cases hs:(X.flows.getD (fj X e.slot) Fl.zero).serving=true
    ·rw [if_pos hs];exact yc h z
    ·rw [if_neg hs];exact h
   ·rw [if_neg h2];by_cases hs:(X.flows.getD (fj X e.slot) Fl.zero).serving=true
    ·rw [if_pos hs];exact h
    ·rw [if_neg hs];by_cases hg:e.good=true
     ·rw [if_pos hg];have I:=h.at_ z;obtain ⟨K,U,W,Y,Z,q5,q6,q7,q8,q9⟩:=h.num I;have J:=qR h z;have E:=J.noted (b:=(X.flows.getD (fj X e.slot) Fl.zero).backend.toNat) (by omega) false;exact yc E (by simpa [ce,j6] using z)
     ·rw [if_neg hg];exact yu h z _
theorem Gz {P:Wd×List Out} (h:GwMay P.1) {slot:Int} (z:gN P.1 slot):GwMay (mH P slot).1:=by
 unfold mH;by_cases hs:(P.1.flows.getD (fj P.1 slot) Fl.zero).serving=true
 ·rw [if_pos hs];exact nJ h z.2 6 1
 ·rw [if_neg hs];exact yu h z.2 _
theorem GH {P:Wd×List Out} (h:GwMay P.1) {slot:Int} (z:gN P.1 slot):GwMay (pW P slot).1:=nJ h z.2 6 2
theorem nC {X:Wd} (_:GwMay X) {slot:Int} (h:∃ f∈X.flows,f.slot=slot):gN X slot:=by
 obtain ⟨f,h,K⟩:=h;rcases bM (nF slot) X.flows Fl.zero with ⟨_,J⟩|⟨i,I,z,_⟩
 ·have:=J f h;simp [nF,K] at this
 ·have E:fj X slot=i:=by unfold fj;rw [z];simp
  unfold gN;rw [E];exact ⟨z,I⟩
structure WdMay (X:Wd):Prop where
 gw:GwMay X
 du:∀ f∈X.flows,X.now<f.due
 un:∀ x∈X.lives,x.state=3->X.now<x.until_
theorem wG:∀ (Y:List Int) (P:Wd),Y.foldl gD P={ P with ring:=(Y.foldl gD P).ring,health:=(Y.foldl gD P).health }
 | [],_=>rfl
 | y :: Y,P=>by rw [List.foldl_cons,wG Y (gD P y)];rfl
theorem qE (i:Nat):∀ (Y:List Int) (P:Wd),(Y.foldl gD P).health.getD i Ht.zero=P.health.getD i Ht.zero\/(Y.foldl gD P).health.getD i Ht.zero=Ht.zero
 | [],_=>Or.inl rfl
 | y :: Y,P=>by
  rw [List.foldl_cons];rcases qE i Y (gD P y) with e|e
  ·rw [e];unfold gD;simp only;by_cases hy:y.toNat<P.health.length
   ·rw [cR hy];by_cases e2:y.toNat=i
    ·rw [if_pos e2];exact Or.inr rfl
    ·rw [if_neg e2];exact Or.inl rfl
   ·rw [List.set_eq_of_length_le (by omega)];exact Or.inl rfl
  ·exact Or.inr e
theorem mh (X:Wd):cE X={ bP X with ring:=(cE X).ring,health:=(cE X).health }:=wG _ _
theorem wF:∀ (Y:List Int) (P:Wd),(Y.foldl gD P).health.length=P.health.length
 | [],_=>rfl
 | y :: Y,P=>by rw [List.foldl_cons,wF Y (gD P y)];simp [gD]
theorem wN (X:Wd):(cE X).health.length=X.health.length:=wF _ _
theorem Gh {c:Cf} {h:Ht} {now:Int} (J:im c.ww c.wf c.wh) (z:0<=now) (E:now<=1099511627776) (I:sZ c.ww h.marks.length h.out h.until_ h.times):gv c.ww c.wf c.wh h.marks.length h.out h.until_ h.times now 0:=Or.inr (Or.inr (Or.inr ⟨J,z,E,I,rfl⟩))
theorem Bs {a:Int} (h:0<=a):sZ a Ht.zero.marks.length Ht.zero.out Ht.zero.until_ Ht.zero.times:=⟨h,by decide,by decide,by decide,by decide,fun _=>rfl⟩
theorem qK {X:Wd} (z:GwMay X) {i:Nat} (J:i<12):sZ X.cf.ww ((cE X).health.getD i Ht.zero).marks.length ((cE X).health.getD i Ht.zero).out ((cE X).health.getD i Ht.zero).until_ ((cE X).health.getD i Ht.zero).times:=by
 obtain ⟨E,K,U,I⟩:=fJ (z.ht i J);rcases qE i (dy X) (bP X) with h|h
 ·unfold cE;rw [h];exact I
 ·unfold cE;rw [h];exact Bs (by have:=E.1;omega)
theorem Iu {X:Wd} (h:GwMay X) (E:X.now<1099511626776) {i:Nat} (z:i<12):gv X.cf.ww X.cf.wf X.cf.wh ((cE X).health.getD i Ht.zero).marks.length ((cE X).health.getD i Ht.zero).out ((cE X).health.getD i Ht.zero).until_ ((cE X).health.getD i Ht.zero).times (X.now+1) 0:=
 Gh h.cf.2.2 (by have:=h.n0;omega) (by omega) (qK h z)
theorem yH {a now:Int} {h:Ht} (W:sZ a h.marks.length h.out h.until_ h.times):sZ a (fQ now h).marks.length (fQ now h).out (fQ now h).until_ (fQ now h).times/\((fQ now h).out=true->now<(fQ now h).until_):=by
 obtain ⟨z,E,I,J,K,U⟩:=W;unfold fQ;by_cases hc:h.out=true/\h.until_<=now
 ·rw [if_pos hc];exact ⟨⟨z,E,I,Int.le_refl 0,(by decide:(0:Int)<=1099511628276),fun _=>rfl⟩,by simp⟩
 ·rw [if_neg hc];exact ⟨⟨z,E,I,J,K,U⟩,fun Y=>by rw [Y] at hc;simp at hc;exact hc⟩
theorem kP {α β:Type} (f:α->β) {L:List α} {i:Nat} (h:i<L.length) (d:α) (e:β):(L.map f).getD i e=f (L.getD i d):=by
 rw [aQ (by simpa using h),aQ h,List.getElem_map]
theorem Ec {X:Wd} (h:GwMay X):(X.lists.flatten.filter fun t=>decide (X.now+1<t.at_)).Perm (ez (X.now+1) X.flows):=by
 refine (h.whp.filter _).trans ?_;unfold ez;rw [List.filter_map,List.filter_filter];refine List.Perm.of_eq (congrArg _ (List.filter_congr fun f _=>?_));simp only [Function.comp,o9];by_cases h1:X.now+1<f.due
 ·simp [h1];omega
 ·simp [h1]
theorem Cl {X:Wd} (h:WdMay X) (hn:X.now<1099511626776):GwMay (j5 X):=by
 have g:=h.gw;have n0:=g.n0
 have hl1:(cE X).health.length=12:=by rw [wN];exact g.hl
 have hf:=mh X
 have hlv:(cE X).lives=X.lives.map (Lf.wk (X.now+1)):=by rw [hf];rfl
 have hrg:=zh g;rw [hlv] at hrg
 have e:j5 X={ bP X with ring:=(cE X).ring,health:=(cE X).health.map (fQ (X.now+1)) }:=by
  unfold j5
  have hnow:(cE X).now=X.now+1:=by rw [hf];rfl
  rw [hnow]
  conv=>lhs;rw [hf]
 rw [e]
 have hst:∀ {b:Int},i8 X.lives b=2\/i8 X.lives b=3->i8 (X.lives.map (Lf.wk (X.now+1))) b=2\/i8 (X.lives.map (Lf.wk (X.now+1))) b=3:=by
  intro b hb;rw [stB_wk,if_neg (by omega)];exact hb
 refine { cf:=g.cf,n0:=by simp only [bP];omega,n1:=by simp only [bP];omega,tb:=g.tb,tl:=g.tl,bk:=GX (by omega) (by omega) g.bk,hl:=by simpa using hl1,ht:=?_,ho:=?_,t0:=g.t0,t1:=g.t1,rg:=hrg,wn:=rfl,wl:=fN (Ec g),so:=g.so,fl:=fun f hfm=>?_,us:=g.us,dr:=?_,si:=?_ }
 ·intro i hi;simp only;rw [kP _ (by omega) Ht.zero];exact Gh g.cf.2.2 (by simp only [bP];omega) (by simp only [bP];omega) (yH (qK g hi)).1
 ·intro i hi;simp only;rw [kP _ (by omega) Ht.zero];exact (yH (qK g hi)).2
 ·have h2:=g.fl f hfm;have h3:=h.du f hfm;have d1:=h2.d1;exact ⟨h2.s0,h2.s1,h2.sl,h2.r0,h2.r1,hst h2.st,by simp only [bP];omega,by simp only [bP];omega⟩
 ·intro x hx h3;obtain ⟨y,hy,rfl⟩:=LH.1 (show x∈X.lives.map (Lf.wk (X.now+1)) from hx)
  have hy3:y.state=3:=by
   unfold Lf.wk at h3;by_cases e1:y.state=1
   ·rw [if_pos e1] at h3;exact absurd h3 (by simp)
   ·rw [if_neg e1] at h3;exact h3
  obtain ⟨f,hfm,hfb⟩:=g.dr y hy hy3;exact ⟨f,hfm,by rw [AM];exact hfb⟩
 ·intro x hx;obtain ⟨y,hy,rfl⟩:=LH.1 (show x∈X.lives.map (Lf.wk (X.now+1)) from hx);have:=g.si y hy;unfold Lf.wk;simp only [bP];by_cases e1:y.state=1
  ·rw [if_pos e1];simp
  ·rw [if_neg e1];omega
theorem Gu {L:List Lf} {b:Int} {x:Lf} (h:x∈kt L b):x∈L\/x.state=4:=by
 unfold kt at h
 cases e:L.findIdx? (cM b) with
 | none=>rw [e] at h;exact Or.inl h
 | some i=>
  rw [e] at h;rcases List.mem_or_eq_of_mem_set h with h|rfl
  ·exact Or.inl h
  ·exact Or.inr rfl
theorem jF (X:Wd) (b:Int):∃ L,(cj X b).1={ X with lives:=L }/\(∀ x∈L,x.state=3->x∈X.lives)/\(cj X b).2.length<=1:=by
 unfold cj
 cases dJ X.lives b with
 | none=>exact ⟨X.lives,rfl,fun _ h _=>h,by simp⟩
 | some x=>
  simp only;by_cases hc:x.state=3/\j8 X.tab b X.tab.length=[]
  ·rw [if_pos hc];refine ⟨kt X.lives b,rfl,fun I z E=>?_,by simp⟩;rcases Gu z with h|h
   ·exact h
   ·omega
  ·rw [if_neg hc];exact ⟨X.lives,rfl,fun _ h _=>h,by simp⟩
structure StepS (P Q:Wd×List Out) (s:Int):Prop where
 now:Q.1.now=P.1.now
 fl:∀ f∈Q.1.flows,(f∈P.1.flows/\f.slot≠s)\/P.1.now<f.due
 ke:∀ f∈P.1.flows,f.slot≠s->f∈Q.1.flows
 lv:∀ x∈Q.1.lives,x.state=3->x∈P.1.lives
 ou:Q.2.length<=P.2.length+2
structure CutAns (P Q:Wd×List Out) (s:Int):Prop where
 now:Q.1.now=P.1.now
 fl:∀ f,f∈Q.1.flows↔f∈P.1.flows/\f.slot≠s
 lv:∀ x∈Q.1.lives,x.state=3->x∈P.1.lives
 ou:Q.2.length<=P.2.length+2
 ln:Q.1.flows.length+1=P.1.flows.length
theorem CutAns.step {P Q:Wd×List Out} {s:Int} (h:CutAns P Q s):StepS P Q s:=⟨h.now,fun f z=>Or.inl ((h.fl f).1 z),fun f z E=>(h.fl f).2 ⟨z,E⟩,h.lv,h.ou⟩
theorem rQ {X:Wd} {s:Int} (h:gN X s):(X.flows.getD (fj X s) Fl.zero).slot=s:=by
 rcases bM (nF s) X.flows Fl.zero with ⟨z,_⟩|⟨i,I,z,E,_⟩
 ·have:=h.1;omega
 ·have:=h.1;have:fj X s=i:=by omega
  rw [this];simpa [nF] using E
theorem nH {X:Wd} (W:GwMay X) {s:Int} (J:gN X s) (O:List Out) (k y:Int):CutAns (X,O) ((gV X (fj X s) k y).1,O++(gV X (fj X s) k y).2) s:=by
 have I:=sj W.so J.2;have K:=rQ J
 have Z:∀ z,z∈X.flows.take (fj X s)++X.flows.drop (fj X s+1)↔z∈X.flows/\z.slot≠s:=by
  intro z;constructor
  ·intro h;have:=I.ne z h;rw [K] at this;exact ⟨I.mem.2 (Or.inr h),this⟩
  ·rintro ⟨h,a0⟩;rcases I.mem.1 h with rfl|h
   ·exact absurd K a0
   ·exact h
 unfold gV;obtain ⟨L,E,Y,ho⟩:=jF (jy X (fj X s) (eQ X.tab (X.flows.getD (fj X s) Fl.zero))) (X.flows.getD (fj X s) Fl.zero).backend;refine ⟨?_,fun U=>?_,?_,?_,?_⟩
 ·simp only;rw [E]
  rfl
 ·simp only;rw [E];exact Z U
 ·simp only;rw [E];exact Y
 ·simp only [Ll,List.length_cons];omega
 ·simp only;rw [E];simp only [jy,Ll,Ls,List.length_drop];have:=J.2;omega
theorem tW {X:Wd} (z:GwMay X) {s:Int} (U:gN X s) (O:List Out) (a1:Int):StepS (X,O) ((fg X (fj X s) a1).1,O++(fg X (fj X s) a1).2) s:=by
 have E:=sj z.so U.2;have hs:=rQ U;have a3:=z.at_ U.2;obtain ⟨q,q1,q2,q3,q4,q5,q6,q7,q8,q9⟩:=z.num a3;have hN:=z.noted (b:=(X.flows.getD (fj X s) Fl.zero).backend.toNat) (by omega) true;have a2:gN (ce X (X.flows.getD (fj X s) Fl.zero).backend.toNat true) s:=U
 have hE:∀ W Y,StepS (X,O) ((gV (ce X (X.flows.getD (fj X s) Fl.zero).backend.toNat true) (fj X s) W Y).1,O++(gV (ce X (X.flows.getD (fj X s) Fl.zero).backend.toNat true) (fj X s) W Y).2) s:=by
  intro W Y;have K:=(nH hN a2 O W Y).step;exact ⟨K.now,K.fl,K.ke,K.lv,K.ou⟩
 have a6:=z.cf.1.1;unfold fg;simp only;by_cases hc:(X.flows.getD (fj X s) Fl.zero).retries=X.cf.retries\/X.tok<X.cf.bd
 ·rw [if_pos hc];exact hE _ _
 ·rw [if_neg hc];by_cases hp:(dG (ce X (X.flows.getD (fj X s) Fl.zero).backend.toNat true) (X.flows.getD (fj X s) Fl.zero).key.toNat (X.flows.getD (fj X s) Fl.zero).slot).2≠0
  ·rw [if_pos hp];exact hE _ _
  ·rw [if_neg hp];generalize (dG (ce X (X.flows.getD (fj X s) Fl.zero).backend.toNat true) (X.flows.getD (fj X s) Fl.zero).key.toNat (X.flows.getD (fj X s) Fl.zero).slot).1=b
   have hM:∀ J,(∀ x∈J,x.state=3->x∈X.lives)->∀ Z,Z.length<=1->StepS (X,O) ({ iS (ce X (X.flows.getD (fj X s) Fl.zero).backend.toNat true) (fj X s) b with lives:=J },O++⟨5,(X.flows.getD (fj X s) Fl.zero).slot,(X.flows.getD (fj X s) Fl.zero).gen,b,0,0,0⟩ :: Z) s:=by
    intro J hL Z a5;have a0:=fun h=>E.set h;refine ⟨rfl,fun f I=>?_,fun f I a4=>?_,hL,by simp only [Ll,List.length_cons];omega⟩
    ·simp only [iS,ce] at I;rw [a0] at I;simp only [List.mem_append,List.mem_cons] at I;rcases I with h|rfl|h
     ·have:=E.ne f (List.mem_append_left _ h);rw [hs] at this;exact Or.inl ⟨E.mem.2 (Or.inr (List.mem_append_left _ h)),this⟩
     ·refine Or.inr ?_;simp only;omega
     ·have:=E.ne f (List.mem_append_right _ h);rw [hs] at this;exact Or.inl ⟨E.mem.2 (Or.inr (List.mem_append_right _ h)),this⟩
    ·simp only [iS,ce];rw [a0];simp only [List.mem_append,List.mem_cons];rcases E.mem.1 I with rfl|h
     ·exact absurd hs a4
     ·rcases List.mem_append.1 h with h|h
      ·exact Or.inl h
      ·exact Or.inr (Or.inr h)
   by_cases e:(X.flows.getD (fj X s) Fl.zero).backend=b
   ·rw [if_pos e];exact hM X.lives (fun _ z _=>z) [] (by simp)
   ·rw [if_neg e];obtain ⟨J,e2,hL,ho⟩:=jF (iS (ce X (X.flows.getD (fj X s) Fl.zero).backend.toNat true) (fj X s) b) (X.flows.getD (fj X s) Fl.zero).backend;rw [e2];exact hM J hL _ ho
theorem Gx {P:Wd×List Out} (h:GwMay P.1) {s:Int} (z:gN P.1 s):StepS P (mH P s) s:=by
 unfold mH;by_cases hs:(P.1.flows.getD (fj P.1 s) Fl.zero).serving=true
 ·rw [if_pos hs];exact (nH h z P.2 6 1).step
 ·rw [if_neg hs];exact tW h z P.2 5
theorem GF {P:Wd×List Out} (h:GwMay P.1) {s:Int} (z:gN P.1 s):CutAns P (pW P s) s:=nH h z P.2 6 2
structure Az (P Q:Wd×List Out) (S:List Int):Prop where
 gw:GwMay Q.1
 now:Q.1.now=P.1.now
 fl:∀ f∈Q.1.flows,(f∈P.1.flows/\f.slot∉S)\/P.1.now<f.due
 ke:∀ f∈P.1.flows,f.slot∉S->f∈Q.1.flows
 lv:∀ x∈Q.1.lives,x.state=3->x∈P.1.lives
 ou:Q.2.length<=P.2.length+2*S.length
theorem yv:∀ (S:List Int) (P:Wd×List Out),GwMay P.1->S.Nodup->(∀ s∈S,∃ f∈P.1.flows,f.slot=s)->Az P (S.foldl mH P) S
 | [],P,h,_,_=>⟨h,rfl,fun f I=>Or.inl ⟨I,by simp⟩,fun f I _=>I,fun _ h _=>h,by simp⟩
 | s :: S,P,h,hn,hS=>by
  rw [List.nodup_cons] at hn;have I:=nC h (hS s (Lw ..));have z:=Gx h I
  have E:=yv S (mH P s) (Gz h I) hn.2 (fun t ht=>by
   obtain ⟨f,J,Z⟩:=hS t (Ly _ ht)
   exact ⟨f,z.ke f J (fun e=>hn.1 (by rw [<- e,Z];exact ht)),Z⟩)
  rw [List.foldl_cons];refine ⟨E.gw,E.now.trans z.now,fun f J=>?_,fun f J U=>?_,fun x hx Y=>z.lv x (E.lv x hx Y) Y,?_⟩
  ·rcases E.fl f J with ⟨g1,g2⟩|W
   ·rcases z.fl f g1 with ⟨K,g4⟩|K
    ·exact Or.inl ⟨K,by simp [g4,g2]⟩
    ·exact Or.inr K
   ·rw [z.now] at W;exact Or.inr W
  ·simp only [List.mem_cons,not_or] at U;exact E.ke f (z.ke f J U.1) U.2
  ·have:=E.ou;have:=z.ou;simp only [List.length_cons];omega
structure Ca (P Q:Wd×List Out) (S:List Int):Prop where
 gw:GwMay Q.1
 now:Q.1.now=P.1.now
 fl:∀ f,f∈Q.1.flows↔f∈P.1.flows/\f.slot∉S
 lv:∀ x∈Q.1.lives,x.state=3->x∈P.1.lives
 ou:Q.2.length+2*Q.1.flows.length<=P.2.length+2*P.1.flows.length
theorem yx:∀ (S:List Int) (P:Wd×List Out),GwMay P.1->S.Nodup->(∀ s∈S,∃ f∈P.1.flows,f.slot=s)->Ca P (S.foldl pW P) S
 | [],P,h,_,_=>⟨h,rfl,fun f=>by simp,fun _ h _=>h,by simp⟩
 | s :: S,P,h,hn,hS=>by
  rw [List.nodup_cons] at hn;have W:=nC h (hS s (Lw ..));have z:=GF h W
  have E:=yx S (pW P s) (GH h W) hn.2 (fun t Z=>by
   obtain ⟨f,a0,Y⟩:=hS t (Ly _ Z)
   exact ⟨f,(z.fl f).2 ⟨a0,(fun e=>hn.1 (by rw [<- e,Y];exact Z))⟩,Y⟩)
  rw [List.foldl_cons];refine ⟨E.gw,E.now.trans z.now,fun f=>?_,fun x hx U=>z.lv x (E.lv x hx U) U,?_⟩
  ·rw [E.fl,z.fl];simp only [List.mem_cons,not_or];constructor
   ·rintro ⟨⟨I,J⟩,K⟩;exact ⟨I,J,K⟩
   ·rintro ⟨I,J,K⟩;exact ⟨⟨I,J⟩,K⟩
  ·have:=E.ou;have:=z.ou;have:=z.ln;omega
theorem uZ {X:Wd} (J:GwMay X) {s:Int}:s∈eU X↔∃ f∈X.flows,f.due=X.now+1/\f.slot=s:=by
 unfold eU;rw [((dp _).map Tm.id).mem_iff,((J.whp.filter _).map Tm.id).mem_iff];constructor
 ·intro I;obtain ⟨K,E,rfl⟩:=LH.1 I;obtain ⟨E,h⟩:=List.mem_filter.1 E;obtain ⟨f,z,rfl⟩:=LH.1 E;exact ⟨f,(List.mem_filter.1 z).1,by simpa [o9] using h,rfl⟩
 ·rintro ⟨f,z,h,rfl⟩;exact LH.2 ⟨o9 f,List.mem_filter.2 ⟨LH.2 ⟨f,List.mem_filter.2 ⟨z,by simp;omega⟩,rfl⟩,by simp [o9,h]⟩,rfl⟩
theorem tG {X:Wd} (h:GwMay X):(eU X).Nodup:=by
 unfold eU;rw [((dp _).map Tm.id).nodup_iff,((h.whp.filter _).map Tm.id).nodup_iff];exact (List.filter_sublist.map Tm.id).nodup h.tms.2
theorem Fd {X:Wd} (h:GwMay X):(eU X).length<=40:=by
 have z:=xG X;have E:=h.whp.length_eq;exact Q109
theorem kv (X:Wd):(j5 X).flows=X.flows/\(j5 X).now=X.now+1/\(j5 X).lives=X.lives.map (Lf.wk (X.now+1)):=by
 have h:=mh X;unfold j5;simp only;rw [h];exact ⟨rfl,rfl,rfl⟩
theorem rF {L:List Int} (I:L.Nodup) {k:Nat} (z:k<L.length):L.getD k 0∉L.take k:=by
 intro E;obtain ⟨K,J,h⟩:=List.mem_iff_getElem.1 E;rw [Ls] at J;rw [aQ z,List.getElem_take] at h;exact List.pairwise_iff_getElem.1 (List.nodup_iff_pairwise_ne.1 I) K k (by omega) z (by omega) h
theorem Gy {X:Wd} (h:WdMay X) (J:X.now<1099511626776) (k:Nat):Az (j5 X,[]) (gc X k) ((eU X).take k):=by
 refine yv _ _ (Cl h J) ((List.take_sublist _ _).nodup (tG h.gw)) fun U K=>?_;obtain ⟨z,E,_,I⟩:=(uZ h.gw).1 (List.mem_of_mem_take K);exact ⟨z,by rw [(kv X).1];exact E,I⟩
theorem nK {X:Wd} (h:WdMay X) (z:X.now<1099511626776):Az (j5 X,[]) (ci X) (eU X):=by
 have:=Gy h z (eU X).length;unfold gc at this;rw [jw,List.take_length] at this;exact this
theorem oA {X:Wd} (h:GwMay X) {b s:Int}:s∈dO X.tab b↔∃ f∈X.flows,f.backend=b/\f.slot=s:=by
 unfold dO;constructor
 ·intro z;obtain ⟨Y,J,rfl⟩:=LH.1 z;obtain ⟨K,E,I,hb,rfl⟩:=j7.1 J;obtain ⟨f,hf,hs⟩:=h.us K E I;refine ⟨f,hf,?_,hs⟩;exact Q151
 ·rintro ⟨f,hf,rfl,rfl⟩;have h1:=h.fl f hf;have U:=h1.s0;have W:=h1.s1;refine LH.2 ⟨⟨f.slot.toNat,(X.tab.getD f.slot.toNat Sl.zero).gen⟩,j7.2 ⟨f.slot.toNat,by omega,by rw [h1.sl],by rw [h1.sl],rfl⟩,by simp only;omega⟩
theorem tH (T:List Sl) (b:Int):∀ n,((j8 T b n).map Hd.slot).Nodup
 | 0=>by simp [j8]
 | n+1=>by
  simp only [j8,LG];rw [List.nodup_append];refine ⟨tH T b n,?_,?_⟩
  ·split<;>simp
  ·intro J z K E;obtain ⟨Y,I,rfl⟩:=LH.1 z;obtain ⟨W,U,_,_,rfl⟩:=j7.1 I;obtain ⟨Z,h,rfl⟩:=LH.1 E
   split at h
   ·simp at h;subst h;simp;omega
   ·simp at h
theorem p9 (T:List Sl) (b:Int):(dO T b).Nodup:=tH T b _
theorem GG {P:Wd×List Out} (h:GwMay P.1) (b:Int) (j:Nat):Ca P (nN P b j) ((dO P.1.tab b).take j):=by
 refine yx _ _ h ((List.take_sublist _ _).nodup (p9 _ _)) fun K J=>?_;obtain ⟨z,E,_,I⟩:=(oA h).1 (List.mem_of_mem_take J);exact ⟨z,E,I⟩
structure C9 (P Q:Wd×List Out) (L:List Lf):Prop where
 gw:GwMay Q.1
 now:Q.1.now=P.1.now
 fl:∀ f∈Q.1.flows,f∈P.1.flows
 lv:∀ x∈Q.1.lives,x.state=3->x∈P.1.lives
 ou:Q.2.length+2*Q.1.flows.length<=P.2.length+2*P.1.flows.length
 no:∀ x∈L,x.state=3->x.until_<=P.1.now->∀ f∈Q.1.flows,f.backend≠x.backend
theorem Dz {P:Wd×List Out} (z:GwMay P.1) (x:Lf):C9 P (gp P x) [x]:=by
 unfold gp;by_cases hc:x.state≠3\/P.1.now<x.until_
 ·rw [if_pos hc];refine ⟨z,rfl,fun _ z=>z,fun _ z _=>z,KY _,fun Z E W Y=>?_⟩;simp only [List.mem_singleton] at E;subst E;omega
 ·rw [if_neg hc];have h:=GG z x.backend (dO P.1.tab x.backend).length;unfold nN at h;rw [jw,List.take_length] at h;refine ⟨h.gw,h.now,fun I J=>((h.fl I).1 J).1,h.lv,h.ou,fun Z E W Y I J U=>?_⟩;simp only [List.mem_singleton] at E;subst E;have K:=(h.fl I).1 J;exact K.2 ((oA z).2 ⟨I,K.1,U,rfl⟩)
theorem mJ:∀ (L:List Lf) (P:Wd×List Out),GwMay P.1->C9 P (L.foldl gp P) L
 | [],P,h=>⟨h,rfl,fun _ h=>h,fun _ h _=>h,KY _,fun _ Z=>by simp at Z⟩
 | x :: L,P,h=>by
  have z:=Dz h x;have E:=mJ L (gp P x) z.gw;rw [List.foldl_cons];refine ⟨E.gw,E.now.trans z.now,fun I W=>z.fl I (E.fl I W),fun U K J=>z.lv U (E.lv U K J) J,Lz E.ou z.ou,fun U K J Y I W=>?_⟩;rcases List.mem_cons.1 K with rfl|K
  ·exact z.no U (Lw ..) J Y I (E.fl I W)
  ·exact E.no U K J (by rw [z.now];exact Y) I W
theorem Ir {X:Wd} (h:WdMay X) (z:X.now<1099511626776) (k:Nat):C9 (ci X) (dZ X k) ((ci X).1.lives.take k):=mJ _ _ (nK h z).gw
theorem wM {X:Wd} (h:WdMay X) (z:X.now<1099511626776):C9 (ci X) (jk X) (ci X).1.lives:=mJ _ _ (nK h z).gw
theorem Iq {X:Wd} (h:WdMay X) (I:X.now<1099511626776):(ci X).2.length+2*(ci X).1.flows.length<=160:=by
 have z:=nK h I;have E:=z.ou;have J:=Fd h.gw;have K:=z.gw.len;simp only [List.length_nil] at E;omega
theorem AU {X:Wd} (I:WdMay X) (hn:X.now<1099511626776):WdMay (jk X).1/\(jk X).1.now=X.now+1:=by
 have h1:=nK I hn;have z:=wM I hn;have U:=kv X;have e3:(ci X).1.now=X.now+1:=h1.now.trans U.2.1;have J:(jk X).1.now=X.now+1:=z.now.trans e3;refine ⟨⟨z.gw,fun h W=>?_,fun Z hx Y=>?_⟩,J⟩
 ·rw [J];rcases h1.fl h (z.fl h W) with ⟨K,g2⟩|E
  ·rw [U.1] at K;have d1:=I.du h K;have d2:h.due≠X.now+1:=fun e=>g2 ((uZ I.gw).2 ⟨h,K,e,rfl⟩);omega
  ·simp only at E;rw [U.2.1] at E;exact E
 ·rw [J];refine Classical.byContradiction fun E=>?_;have a1:=z.lv Z hx Y;obtain ⟨h,W,a0⟩:=z.gw.dr Z hx Y;exact z.no Z a1 Y (by rw [e3];omega) h W a0
theorem zd {X:Wd} (h:bJ X.lives X.reqs):(dy X).Nodup:=by
 rw [AH,List.nodup_iff_pairwise_ne,List.pairwise_map];exact ((cU h).filter _).imp fun {z E} I=>by omega
theorem Ib {L:List Lf} {R:List Rq} (h:bJ L R) (b:Int):0<=pM L b/\pM L b<=8:=by
 unfold pM
 cases hl:dJ L b with
 | none=>simp
 | some x=>
  have:=eZ h (eV hl).1;simp only [Option.map_some,LI];exact ⟨by have:=this.2.2.1;omega,this.2.2.2.1⟩
theorem Ip {X:Wd} (h:GwMay X) (hn:X.now<1099511626776) {k:Nat} (U:k<(dy X).length):0<=(dy X).getD k 0/\(dy X).getD k 0<=11/\(∃ x,dJ (bP X).lives ((dy X).getD k 0)=some x/\1<=x.weight/\x.weight<=8)/\RgMay (fL X k).ring/\(fL X k).lives=(bP X).lives/\(fL X k).health.length=12/\(gx (fL X k).ring).getD ((dy X).getD k 0).toNat 0=0:=by
 have n0:=h.n0;have a3:bJ (bP X).lives X.reqs:=GX (by omega) (by omega) h.bk
 have W:(dy X).getD k 0∈dy X:=by rw [aQ U];exact Lp U
 have K:=ut h.bk W;have I:=(mO h.bk).1 W;have a0:=rF (zd h.bk) U;generalize (dy X).getD k 0=y at W K I a0 ⊢;have E:=qB ((dy X).take k) (bP X) (dQ X.lives) (cI _) h.rg;have hl:(((dy X).take k).foldl (AG (bP X).lives) (dQ X.lives)).length=12:=by rw [uq,cI]
 have a1:∀ z∈(dy X).take k,0<=z:=fun z hz=>(ut h.bk (List.mem_of_mem_take hz)).1;have Z:y.toNat<12:=by omega
 have a2:((y.toNat:Nat):Int)=y:=by omega
 have e:fL X k=((dy X).take k).foldl gD (bP X):=rfl;rw [<- e] at E;refine ⟨K.1,K.2,?_,?_,E.2.1,?_,?_⟩
 ·obtain ⟨x,hx,rfl,a5⟩:=mR I (by decide);have a4:=jM (cU h.bk) hx;have Y:=eZ h.bk hx;refine ⟨Lf.wk (X.now+1) x,by show dJ (X.lives.map (Lf.wk (X.now+1))) _=_;rw [qr,a4];rfl,?_⟩
  have hw:(Lf.wk (X.now+1) x).weight=x.weight:=by unfold Lf.wk;by_cases g:x.state=1<;>simp [g]
  rw [hw];exact ⟨Y.2.2.1,Y.2.2.2.1⟩
 ·rw [E.1];refine qU hl fun J=>?_;by_cases hb:J<12
  ·rw [qd _ hb _ _ (cI _) a1]
   split
   ·have:=Ib a3 J;omega
   ·exact Bj h.bk J
  ·rw [show (((dy X).take k).foldl (AG (bP X).lives) (dQ X.lives)).getD J 0=0 by simp only [List.getD];rw [Lu (by omega)];rfl];omega
 ·rw [E.2.2];exact h.hl
 ·rw [E.1,iM hl,qd _ Z _ _ (cI _) a1,a2,if_neg a0,ft _ Z,a2];unfold i8 at I
  cases hlf:dJ X.lives y with
  | none=>rfl
  | some x=>
   rw [hlf] at I;simp only [Option.map_some,LI] at I;simp only;rw [if_neg (by omega)]
theorem Ee {X:Wd} (W:WdMay X) (I:X.now<1099511626776):BL X:=by
 have h:=W.gw;have n0:=h.n0;have ho:=Iq W I;refine { wh:=h.wh,wn:=h.wn,n0:=n0,n1:=I,bk:=h.bk,bk2:=GX (by omega) (by omega) h.bk,hl:=h.hl,hl1:=by rw [wN];exact h.hl,wo:=fun z K=>Ip h I K,ba:=fun i hi=>Iu h I hi,du:=?_,b3:=(nK W I).gw.bk,dr:=?_ }
 ·intro z K;have E:=Gy W I z
  have hm:(eU X).getD z 0∈eU X:=by rw [aQ K];exact Lp K
  obtain ⟨U,Z,_,Y⟩:=(uZ h).1 hm;have a0:=rF (tG h) K;refine ⟨E.gw,nC E.gw ⟨U,E.ke U (by rw [(kv X).1];exact Z) (by rw [Y];exact a0),Y⟩,?_⟩;have J:=E.ou;have h3:=Fd h;simp only [List.length_nil,Ls] at J;omega
 ·intro z K h3 hu;have E:=Ir W I z;have a1:=E.ou;refine ⟨E.gw.tb,fun j hj=>?_⟩;have J:=GG E.gw ((ci X).1.lives.getD z Lf.zero).backend j
  have hm:(dO (dZ X z).1.tab ((ci X).1.lives.getD z Lf.zero).backend).getD j 0∈dO (dZ X z).1.tab ((ci X).1.lives.getD z Lf.zero).backend:=by rw [aQ hj];exact Lp hj
  obtain ⟨U,Z,_,Y⟩:=(oA E.gw).1 hm;have a0:=rF (p9 _ _) hj;refine ⟨J.gw,nC J.gw ⟨U,(J.fl U).2 ⟨Z,by rw [Y];exact a0⟩,Y⟩,?_⟩;have a2:=J.ou;omega
end
end Go.Proofs.YtennppmadmgfoaaGreatDoor
