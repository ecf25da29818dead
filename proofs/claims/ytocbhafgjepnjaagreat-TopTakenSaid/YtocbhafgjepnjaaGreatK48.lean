/- Texts of the row's proof. Conditions: none. -/
import Derived.Test.YtocbhafgjepnjaaGreatK44
namespace Go.Proofs.YtocbhafgjepnjaaGreat
set_option maxRecDepth 100000
set_option maxHeartbeats 8000000
section
open Go.RowKit
theorem GM {num den flows w W:Int} (hD:0<den*W):num*(flows+1)*w≤den*W*nZ num den flows w W:=by
 unfold nZ;generalize num*(flows+1)*w=A;generalize den*W=D at hD ⊢;have h1:=Int.mul_ediv_add_emod (A+D - 1) D;have h2:=Int.emod_lt_of_pos (A+D - 1) hD;omega
def oJ (L:List Ld):Int:=(L.map fun x=>if 0<x.weight then x.flows else 0).sum
theorem uJ {num den flows W:Int} (hD:0<den*W):∀ L:List Ld,(∀ x∈L,0≤x.weight)→(∀ x∈L,0<x.weight→nZ num den flows x.weight W≤x.flows)→num*(flows+1)*dF L≤den*W*oJ L
 | [],_,_=>by simp [dF,oJ]
 | x :: L,h0,hc=>by
  have ih:=uJ hD L (fun y hy=>h0 y (IF _ hy)) (fun y hy=>hc y (IF _ hy));have e1:dF (x :: L)=x.weight+dF L:=by simp [dF]
  have e2:oJ (x :: L)=(if 0<x.weight then x.flows else 0)+oJ L:=by simp [oJ]
  rw [e1,e2,Int.mul_add (num*(flows+1)) x.weight (dF L),Int.mul_add (den*W) _ (oJ L)];by_cases hw:0<x.weight
  ·rw [if_pos hw];have h1:=GM (num:=num) (flows:=flows) (w:=x.weight) hD;have h2:=Int.mul_le_mul_of_nonneg_left (hc x (ID ..) hw) (Int.le_of_lt hD);omega
  ·rw [if_neg hw]
   have:x.weight=0:=by have:=h0 x (ID ..);omega
   rw [this,Int.mul_zero,Int.mul_zero,Int.zero_add,Int.zero_add];exact ih
theorem FF {L:List Ld} {num den flows:Int} (h0:∀ x∈L,0≤x.weight) (hd:1≤den) (hn:den≤num) (hf:0≤flows) (hF:oJ L≤flows) (hw:0<dF L):∃ x∈L,0<x.weight∧x.flows<nZ num den flows x.weight (dF L):=by
 refine Classical.byContradiction fun hne=>?_;have hD:0<den*dF L:=Int.mul_pos (by omega) hw;have h1:=uJ (num:=num) (flows:=flows) hD L h0 (fun x hx hxw=>Int.not_lt.1 fun hlt=>hne ⟨x,hx,hxw,hlt⟩);have h2:den*dF L*oJ L≤den*dF L*flows:=Int.mul_le_mul_of_nonneg_left hF (Int.le_of_lt hD);have h3:den*((flows+1)*dF L)≤num*((flows+1)*dF L):=Int.mul_le_mul_of_nonneg_right hn (Int.mul_nonneg (by omega) (Int.le_of_lt hw))
 have e3:den*((flows+1)*dF L)=den*dF L*flows+den*dF L:=by
  rw [Int.mul_comm (flows+1),← Int.mul_assoc,Int.mul_add,Int.mul_one]
 have e4:num*(flows+1)*dF L=num*((flows+1)*dF L):=Int.mul_assoc _ _ _;omega
theorem uy:∀ {L:List Ld},(∀ x∈L,0≤x.weight)→(0<dF L↔∃ x∈L,0<x.weight)
 | [],_=>by simp [dF]
 | x :: L,h0=>by
  have ih:=uy (L:=L) (fun y hy=>h0 y (IF _ hy));have hx:=h0 x (ID ..);have e1:dF (x :: L)=x.weight+dF L:=by simp [dF]
  have hn:0≤dF L:=by
   clear ih e1
   induction L with
   | nil=>simp [dF]
   | cons y L ih2=>
    have e:dF (y :: L)=y.weight+dF L:=by simp [dF]
    have:=h0 y (by simp);have:=ih2 (fun z hz=>h0 z (by simp at hz ⊢;rcases hz with h|h<;>simp [h]));omega
  rw [e1];constructor
  ·intro h;by_cases hw:0<x.weight
   ·exact ⟨x,ID ..,hw⟩
   ·obtain ⟨y,hy,hyw⟩:=ih.1 (by omega);exact ⟨y,IF _ hy,hyw⟩
  ·rintro ⟨y,hy,hyw⟩;rcases List.mem_cons.1 hy with rfl|hy
   ·omega
   ·have:=ih.2 ⟨y,hy,hyw⟩;omega
theorem CY {Wk:List Int} {L:List Ld} {num den flows tries:Int} (h0:∀ x∈L,0≤x.weight) (hd:1≤den) (hn:den≤num) (hf:0≤flows) (hF:oJ L≤flows):((∃ x∈L,0<x.weight)∧(qh Wk L num den flows tries).2=0)∨((¬ ∃ x∈L,0<x.weight)∧(qh Wk L num den flows tries).2=11):=by
 unfold qh;by_cases hx:∃ x∈L,0<x.weight
 ·refine Or.inl ⟨hx,?_⟩;rw [if_neg (fun g=>by obtain ⟨x,hm,hw⟩:=hx;exact g x hm hw)];obtain ⟨x,hm,hxw,hxr⟩:=FF h0 hd hn hf hF ((uy h0).2 hx);obtain ⟨i,hi,hix⟩:=km hm Ld.zero
  have hok:oF L (bU L num den flows) i:=by
   refine ⟨by rw [hix];exact hxw,?_⟩;unfold j8
   have:(bU L num den flows).getD i 0=nZ num den flows x.weight (dF L):=by
    unfold bU;rw [jq _ hi Ld.zero,hix];unfold o8;rw [if_pos hxw]
   rw [this,hix];simpa using hxr
  have hb:0≤jw L (bU L num den flows) L.length:=by
   rcases qO L (bU L num den flows) L.length with ⟨_,hno⟩|⟨m,e,_⟩
   ·exact absurd hok (hno i (Ik _) hi)
   ·rw [e];omega
  split
  ·rfl
  ·first|rfl|rw [if_pos hb]
 ·exact Or.inr ⟨hx,by rw [if_pos (fun x hm hw=>hx ⟨x,hm,hw⟩)]⟩
theorem Ar {F:List Fl}:∀ {D:List Int},D.Nodup→(D.map fun b=>((F.countP fun f=>f.backend == b:Nat):Int)).sum≤F.length:=by
 induction F with
 | nil=>intro D _;induction D with
  | nil=>simp
  | cons b D ih=>simp_all
 | cons f F ih=>
  intro D hD;have h1:=ih hD
  have h2:(D.map fun b=>(((f :: F).countP fun f=>f.backend == b:Nat):Int)).sum=(D.map fun b=>((F.countP fun f=>f.backend == b:Nat):Int)).sum+(D.count f.backend:Int):=by
   clear h1 ih hD
   induction D with
   | nil=>simp
   | cons b D ih2=>
    rw [List.map_cons,List.sum_cons,ih2,List.map_cons,List.sum_cons,List.countP_cons,List.count_cons];by_cases e:f.backend=b
    ·subst e;simp;omega
    ·have e':¬ b=f.backend:=fun g=>e g.symm;simp [e,e'];omega
  have h3:D.count f.backend≤1:=List.nodup_iff_count.1 hD _;rw [h2];simp only [List.length_cons];omega
theorem BE {X:Wd} (h:GwMay X) {b:Int} (h0:0≤b) (h1:b≤11):(gC X.tab X.tab.length).getD b.toNat 0=((X.flows.countP fun f=>f.backend == b:Nat):Int):=by
 have hl:(gC X.tab X.tab.length).getD b.toNat 0=((iO X.tab b X.tab.length).length:Int):=by
  exact Q132
 have hp:(dt X.tab b).Perm ((X.flows.filter fun f=>f.backend == b).map Fl.slot):=by
  refine (List.perm_ext_iff_of_nodup (iS _ _) ?_).2 fun s=>?_
  ·rw [List.nodup_iff_pairwise_ne,List.pairwise_map];exact (h.so.filter _).imp fun {x y} hxy=>by omega
  ·rw [jf h,II];constructor
   ·rintro ⟨f,hf,hb,hs⟩;exact ⟨f,List.mem_filter.2 ⟨hf,by simpa using hb⟩,hs⟩
   ·rintro ⟨f,hf,hs⟩;obtain ⟨hf,hb⟩:=List.mem_filter.1 hf;exact ⟨f,hf,by simpa using hb,hs⟩
 have hlen:=hp.length_eq;unfold dt at hlen;rw [Iq,Iq] at hlen;rw [hl,List.countP_eq_length_filter,hlen]
theorem Gr {X:Wd} (h:GwMay X):oJ (dx X (-1))≤X.flows.length:=by
 have hs:=bZ h.bk
 have h1:oJ (dx X (-1))≤(((X.lives.filter fun x=>x.state == 2).map Lf.backend).map fun b=>((X.flows.countP fun f=>f.backend == b:Nat):Int)).sum:=by
  unfold oJ dx;have hm:∀ x∈X.lives.filter fun x=>x.state == 2,ex x:=fun x hx=>dz h.bk (List.mem_filter.1 hx).1;generalize (X.lives.filter fun x=>x.state == 2)=M at hm
  induction M with
  | nil=>simp
  | cons x M ih=>
   have hx:=hm x (ID ..);have ih':=ih (fun y hy=>hm y (IF _ hy));simp only [List.map_cons,List.sum_cons]
   have e:(rC X (-1) x).flows=((X.flows.countP fun f=>f.backend == x.backend:Nat):Int):=by
    show ny X (-1) x.backend=_
    unfold ny;rw [if_neg (by simp [vq]),BE h hx.1 hx.2.1];omega
   have:(if 0<(rC X (-1) x).weight then (rC X (-1) x).flows else 0)≤((X.flows.countP fun f=>f.backend == x.backend:Nat):Int):=by
    split
    ·rw [e];exact Int.le_refl _
    ·omega
   omega
 refine Int.le_trans h1 (Ar ?_);rw [List.nodup_iff_pairwise_ne,List.pairwise_map];exact (hs.filter _).imp fun {x y} hxy=>by omega
theorem CX {X:Wd} (h:GwMay X) (key:Nat):((∃ x∈dx X (-1),0<x.weight)∧(dp X key (-1)).2=0)∨((¬ ∃ x∈dx X (-1),0<x.weight)∧(dp X key (-1)).2=11):=by
 have hb:om X (-1):=Or.inl rfl;have hf:=h.fac hb;have hl:=zB h hb
 have hN:CV X (-1)=X.flows.length:=by unfold CV;rw [if_neg (by omega)]
 unfold dp;rw [hN] at hf ⊢;refine CY (fun x hx=>?_) hf.1 hf.2.1 (by omega) (Gr h);obtain ⟨i,hi,rfl⟩:=km hx Ld.zero;have:=hl.2 i hi;unfold mO at this;omega
def gN (T:List Sl):Int:=(T.map Sl.gen).sum
theorem mC:∀ {T:List Sl} {i:Nat} {s:Sl},i<T.length→gN (T.set i s)=gN T - (T.getD i Sl.zero).gen+s.gen
 | [],_,_,h=>absurd h (Nat.not_lt_zero _)
 | a :: T,0,s,_=>by simp [gN];omega
 | a :: T,i+1,s,h=>by
  have ih:=mC (T:=T) (i:=i) (s:=s) (by simpa using h);have e1:gN ((a :: T).set (i+1) s)=a.gen+gN (T.set i s):=by simp [gN]
  have e2:gN (a :: T)=a.gen+gN T:=by simp [gN]
  have e3:(a :: T).getD (i+1) Sl.zero=T.getD i Sl.zero:=by simp
  rw [e1,e2,e3,ih];omega
theorem gen_le {T:List Sl} (h:∀ s∈T,0≤s.gen) {s:Sl} (hs:s∈T):s.gen≤gN T∧0≤gN T:=by
 induction T with
 | nil=>simp at hs
 | cons a T ih=>
  have e2:gN (a :: T)=a.gen+gN T:=by simp [gN]
  have ha:=h a (ID ..)
  have hT:0≤gN T:=by
   cases T with
   | nil=>simp [gN]
   | cons b T=>exact (ih (fun x hx=>h x (IF _ hx)) |> fun k=>by
     have:0≤gN (b :: T):=by
      clear ih k hs e2;have hh:∀ x∈b :: T,0≤x.gen:=fun x hx=>h x (IF _ hx);generalize b :: T=M at hh
      induction M with
      | nil=>simp [gN]
      | cons c M ih2=>
       have e:gN (c :: M)=c.gen+gN M:=by simp [gN]
       have:=hh c (ID ..);have:=ih2 (fun x hx=>hh x (IF _ hx));omega
     exact this)
  rcases List.mem_cons.1 hs with rfl|hs
  ·omega
  ·have:=(ih (fun x hx=>h x (IF _ hx)) hs).1;omega
def Jc (X:Wd):Int:=gN X.tab+X.flows.length
theorem pH (X:Wd) (b:Int):Jc (bP X b).1=Jc X:=by
 obtain ⟨L,e,_⟩:=iy X b;rw [e]
 rfl
theorem wD {X:Wd} (h:GwMay X) {i:Nat} (hi:i<X.flows.length) (k y:Int):Jc (g9 X i k y).1=Jc X:=by
 have hfm:=h.at_ hi;have hff:=h.fl _ hfm;have h0:=hff.s0;have h1:=hff.s1;unfold g9;rw [pH]
 have e1:gN (dQ X.tab (X.flows.getD i Fl.zero))=gN X.tab+1:=by
  unfold dQ;rw [mC (by omega),hff.sl];simp only;omega
 unfold Jc iJ;simp only;rw [e1];simp only [It,Iz,List.length_drop];omega
theorem zu {X:Wd} (h:GwMay X) {i:Nat} (hi:i<X.flows.length) (b:Int):Jc (fZ X i b)=Jc X:=by
 have hff:=h.fl _ (h.at_ hi);have h0:=hff.s0;have h1:=hff.s1;unfold Jc fZ;simp only;rw [mC (by omega),hff.sl,Ix];simp only;omega
theorem E4 {X:Wd} (h:GwMay X) {i:Nat} (hi:i<X.flows.length) (why:Int):Jc (eu X i why).1=Jc X:=by
 have hfm:=h.at_ hi;obtain ⟨q,q1,q2,q3,q4,q5,q6,q7,q8,q9⟩:=h.num hfm;have hN:=h.noted (b:=(X.flows.getD i Fl.zero).backend.toNat) (by omega) true;unfold eu;simp only
 split
 ·exact (wD hN hi _ _).trans rfl
 ·split
  ·exact (wD hN hi _ _).trans rfl
  ·split
   ·exact (zu hN hi _).trans rfl
   ·exact (pH _ _).trans ((zu hN hi _).trans rfl)
theorem due_J {P:Wd×List Out} (h:GwMay P.1) {s:Int} (hf:gc P.1 s):Jc (ja P s).1=Jc P.1:=by
 unfold ja
 split
 ·exact wD h hf.2 6 1
 ·exact E4 h hf.2 5
theorem E7:∀ (S:List Int) (P:Wd×List Out),GwMay P.1→S.Nodup→(∀ s∈S,∃ f∈P.1.flows,f.slot=s)→Jc (S.foldl ja P).1=Jc P.1
 | [],_,_,_,_=>rfl
 | s :: S,P,h,hn,hS=>by
  rw [List.nodup_cons] at hn;have hf:=jr h (hS s (ID ..));have h1:=wF h hf
  rw [List.foldl_cons,E7 S (ja P s) (wH h hf) hn.2 (fun t ht=>by
   obtain ⟨f,hfm,hfs⟩:=hS t (IF _ ht)
   exact ⟨f,h1.ke f hfm (fun e=>hn.1 (by rw [← e,hfs];exact ht)),hfs⟩),due_J h hf]
theorem Ed:∀ (S:List Int) (P:Wd×List Out),GwMay P.1→S.Nodup→(∀ s∈S,∃ f∈P.1.flows,f.slot=s)→Jc (S.foldl lX P).1=Jc P.1
 | [],_,_,_,_=>rfl
 | s :: S,P,h,hn,hS=>by
  rw [List.nodup_cons] at hn;have hf:=jr h (hS s (ID ..));have h1:=wK h hf
  rw [List.foldl_cons,Ed S (lX P s) (wM h hf) hn.2 (fun t ht=>by
   obtain ⟨f,hfm,hfs⟩:=hS t (IF _ ht)
   exact ⟨f,(h1.fl f).2 ⟨hfm,(fun e=>hn.1 (by rw [← e,hfs];exact ht))⟩,hfs⟩)]
  exact wD h hf.2 6 2
theorem wI:∀ (L:List Lf) (P:Wd×List Out),GwMay P.1→Jc (L.foldl eO P).1=Jc P.1
 | [],_,_=>rfl
 | x :: L,P,h=>by
  rw [List.foldl_cons,wI L (eO P x) (sD h x).gw];unfold eO
  split
  ·rfl
  ·exact Ed _ _ h (iS _ _) fun s hs=>by
    obtain ⟨f,hf,_,hfs⟩:=(jf h).1 hs;exact ⟨f,hf,hfs⟩
theorem tick_J {X:Wd} (h:WdMay X) (hn:X.now<1099511626776):Jc (gX X).1=Jc X:=by
 unfold gX;rw [wI _ _ (kT h hn).gw];unfold ca
 rw [E7 (ey X) (fS X,[]) (rP h hn) (nv h.gw) (fun s hs=>by
  obtain ⟨f,hf,_,hfs⟩:=(oX h.gw).1 hs
  exact ⟨f,by rw [(iR X).1];exact hf,hfs⟩)]
 have hf:=iv X;unfold fS Jc;simp only;rw [hf]
 rfl
theorem flow_J {X:Wd} (h:GwMay X) (e:Ev):Jc (ez X e).1=Jc X:=by
 unfold ez;by_cases hc:rE X.tab e.slot e.gen≠0
 ·rw [if_pos hc]
 ·rw [if_neg hc];obtain ⟨_,hi,_,_⟩:=tY h (Decidable.not_not.1 hc)
  split
  ·exact wD h hi _ _
  ·split
   ·simp only
    split
    ·unfold Jc kt;simp
    ·rfl
   ·split
    ·rfl
    ·split
     ·unfold Jc kt bO gZ;simp
     ·exact E4 h hi _
theorem open_J (X:Wd) (key:Nat):Jc (ep X key).1≤Jc X+1:=by
 unfold ep
 split
 ·show Jc X≤_;omega
 ·split
  ·show Jc X≤_;omega
  ·rename_i h1 _
   rcases b8 dH X.tab Sl.zero with ⟨e,_⟩|⟨i,hi,e,_⟩
   ·omega
   ·unfold Jc mY;simp only [e,Iu];rw [mC hi,(nz _ _).length_eq];simp only [It,List.length_singleton];omega
theorem do_J {X:Wd} (h:WdMay X) {e:Ev} (he:EvMay X e):Jc (ib X e).1≤Jc X+1:=by
 unfold ib
 split
 ·exact open_J X _
 ·split
  ·unfold oL jb;simp only
   split
   ·show Jc X≤_;omega
   ·split
    ·show Jc X≤_;omega
    ·rw [pH];show Jc X≤_;omega
  ·split
   ·rename_i h7;rw [tick_J h (he.tk h7)];omega
   ·rw [flow_J h.gw];omega
theorem DY {X:Wd} (h:GwMay X) (hJ:Jc X<1048576):aN dH X.tab<0↔(X.flows.length:Int)=X.cf.flows:=by
 have hu:=pu h;have htl:=h.tl;have hle:(X.tab.filter Sl.used).length≤X.tab.length:=List.length_filter_le _ _
 have hg:∀ s∈X.tab,0≤s.gen:=fun s hs=>by
  have:=h.tb.2.2 s hs;unfold ds at this
  split at this<;>omega
 rcases b8 dH X.tab Sl.zero with ⟨e,hno⟩|⟨i,hi,e,hp,_⟩
 ·refine ⟨fun _=>?_,fun _=>by omega⟩
  have hall:X.tab.filter Sl.used=X.tab:=List.filter_eq_self.2 fun s hs=>by
   have h1:=hno s hs;have h2:=(gen_le hg hs).1
   have h3:s.gen<1048576:=by unfold Jc at hJ;omega
   unfold dH at h1
   cases hus:s.used with
   | true=>rfl
   | false=>rw [hus] at h1;simp [h3] at h1
  rw [hall] at hu;omega
 ·refine ⟨fun g=>by omega,fun g=>?_⟩;exfalso
  have hm:X.tab.getD i Sl.zero∈X.tab:=by rw [aK hi];exact Iw hi
  have hf:(X.tab.getD i Sl.zero).used=false:=by unfold dH at hp;simp at hp;exact hp.1
  have:(X.tab.filter Sl.used).length<X.tab.length:=by
   refine Nat.lt_of_le_of_ne hle fun e2=>?_;have:=List.length_filter_eq_length_iff.1 e2 _ hm;rw [hf] at this;exact absurd this (by decide)
  omega
theorem Cm {X:Wd} (h:GwMay X) (hJ:Jc X<1048576) (key:Nat) :
  ((X.flows.length:Int)<X.cf.flows∧(∃ x∈dx X (-1),0<x.weight)∧∃ s g b,(ep X key).2=[⟨1,s,g,b,0,0,0⟩])∨
  ((X.flows.length:Int)=X.cf.flows∧(ep X key).2=[⟨2,0,0,0,0,9,0⟩])∨
  ((X.flows.length:Int)<X.cf.flows∧(¬ ∃ x∈dx X (-1),0<x.weight)∧(ep X key).2=[⟨2,0,0,0,0,11,0⟩]):=by
 have hu:=pu h
 have htl:=h.tl
 have hle:(X.tab.filter Sl.used).length≤X.tab.length:=List.length_filter_le _ _
 have hfi:=DY h hJ
 by_cases hi:aN dH X.tab<0
 ·refine Or.inr (Or.inl ⟨hfi.1 hi,?_⟩);unfold ep;rw [if_pos hi]
 ·have hne:(X.flows.length:Int)<X.cf.flows:=by
   have:¬ (X.flows.length:Int)=X.cf.flows:=fun g=>hi (hfi.2 g);omega
  rcases CX h key with ⟨hx,hp⟩|⟨hx,hp⟩
  ·refine Or.inl ⟨hne,hx,aN dH X.tab,(X.tab.getD (aN dH X.tab).toNat Sl.zero).gen,(dp X key (-1)).1,?_⟩;unfold ep;rw [if_neg hi,if_neg (by rw [hp];simp)]
  ·refine Or.inr (Or.inr ⟨hne,hx,?_⟩);unfold ep;rw [if_neg hi,if_pos (by rw [hp];decide)]
theorem nO:∀ {L:List Int},(∀ x∈L,0≤x)→(0<L.sum↔∃ x∈L,0<x)∧0≤L.sum
 | [],_=>by simp
 | a :: L,h=>by
  obtain ⟨i1,i2⟩:=nO (L:=L) (fun x hx=>h x (IF _ hx));have h0:=h a ID;rw [List.sum_cons];refine ⟨⟨fun hs=>?_,?_⟩,by omega⟩
  ·by_cases ha:0<a
   ·exact ⟨a,ID,ha⟩
   ·obtain ⟨x,hx,hp⟩:=i1.1 (by omega);exact ⟨x,IF _ hx,hp⟩
  ·rintro ⟨x,hx,hp⟩;rcases List.mem_cons.1 hx with rfl|hx
   ·omega
   ·have:=i1.2 ⟨x,hx,hp⟩;omega
theorem zb {X:Wd} (h:GwMay X):0<Ak X↔∃ x∈dx X (-1),0<x.weight:=by
 unfold Ak rh;rw [(nO (L:=(List.range 12).map fun b:Nat=>l9 X (b:Nat)) (fun x hx=>by obtain ⟨b,_,rfl⟩:=II.1 hx;exact (sX h _).1)).1];constructor
 ·rintro ⟨v,hv,hp⟩;obtain ⟨b,_,rfl⟩:=II.1 hv;unfold l9 at hp
  cases hl:cW X.lives (b:Nat) with
  | none=>rw [hl] at hp;simp at hp
  | some x=>
   rw [hl] at hp;simp only at hp;by_cases h2:x.state=2
   ·rw [if_pos h2] at hp;refine ⟨rC X (-1) x,?_,hp⟩;unfold dx;exact II.2 ⟨x,List.mem_filter.2 ⟨(dj hl).1,by simp [h2]⟩,rfl⟩
   ·rw [if_neg h2] at hp;omega
 ·rintro ⟨y,hy,hp⟩;unfold dx at hy;obtain ⟨x,hx,rfl⟩:=II.1 hy;obtain ⟨hx1,hx2⟩:=List.mem_filter.1 hx;have h2:x.state=2:=by simpa using hx2
  have hm:=dz h.bk hx1;have h0:0≤x.backend:=hm.1;have h11:x.backend≤11:=hm.2.1;obtain ⟨n,hn⟩:=Iy h0;refine ⟨l9 X (n:Nat),II.2 ⟨n,List.mem_range.2 (by omega),rfl⟩,?_⟩;unfold l9;rw [← hn,gI (bZ h.bk) hx1];simp only;rw [if_pos h2];exact hp
def TakS (s:Stp):Prop:=s.ev.kind=1→∃ o,s.out=[o]∧
 (((s.be.flows.length:Int)<s.be.cf.flows∧0<Ak s.be∧o.kind=1)∨
  (¬ (s.be.flows.length:Int)<s.be.cf.flows∧o.kind=2∧o.code=9)∨
  ((s.be.flows.length:Int)<s.be.cf.flows∧¬ 0<Ak s.be∧o.kind=2∧o.code=11))
theorem xD {X:Wd} (h:GwMay X) (hJ:Jc X<1048576) {e:Ev}:TakS ⟨e,X,(ib X e).1,(ib X e).2⟩:=by
 intro hk
 have ho:(ib X e).2=(ep X e.key.toNat).2:=by unfold ib;rw [if_pos hk]
 simp only;rw [ho];rcases Cm h hJ e.key.toNat with ⟨h1,h2,s,g,b,h3⟩|⟨h1,h2⟩|⟨h1,h2,h3⟩
 ·exact ⟨_,h3,Or.inl ⟨h1,(zb h).2 h2,rfl⟩⟩
 ·exact ⟨_,h2,Or.inr (Or.inl ⟨by omega,rfl,rfl⟩)⟩
 ·exact ⟨_,h3,Or.inr (Or.inr ⟨h1,fun g=>h2 ((zb h).1 g),rfl,rfl⟩)⟩
theorem yp (n:Nat):gN (fA n)=0:=by
 unfold gN fA;rw [List.map_replicate]
 induction n with
 | zero=>rfl
 | succ n ih=>rw [List.replicate_succ,List.sum_cons,ih];rfl
structure TakOk (P:kY):Prop where
 j:Jc P.last≤P.steps.length
 s:∀ s∈P.steps,TakS s
theorem Cn {c:Cf} (hc:j4 c) (L:List Dd):TakOk (fW (di c) L 60):=by
 refine CL hc L (by omega) ⟨?_,fun _ h=>absurd h (by simp)⟩ (fun P n e hp hn he h=>⟨?_,fun s hs=>?_⟩)
 ·show Jc (di c)≤_
  unfold Jc di;simp only;rw [yp];simp
 ·have h1:=do_J hp.ok.wd (e:=e) (he.may (by have:=hp.ok.nw;rw [hp.len] at this;omega));have h2:=h.j;show Jc (ib P.last e).1≤((P.steps++[_]).length:Nat)
  rw [It];simp only [List.length_singleton];omega
 ·rcases List.mem_append.1 hs with hs|hs
  ·exact h.s s hs
  ·rw [List.mem_singleton] at hs;subst hs;exact xD hp.ok.wd.gw (by have:=h.j;rw [hp.len] at this;omega)
end
end Go.Proofs.YtocbhafgjepnjaaGreat
