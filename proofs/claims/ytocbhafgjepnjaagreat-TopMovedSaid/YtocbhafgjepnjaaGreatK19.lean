/- Texts of the row's proof. Conditions: none. -/
import Derived.Test.YtocbhafgjepnjaaGreatK17
import Derived.Test.YtocbhafgjepnjaaGreatK18
namespace Go.Proofs.YtocbhafgjepnjaaGreat
set_option maxRecDepth 100000
set_option maxHeartbeats 8000000
section
open Go.RowKit
theorem Q51 {p:Prop} (h:p:=by
 intro x hx;rcases List.mem_cons.1 hx with rfl|hm
 ·exact hN
 ·rcases List.mem_append.1 hm with hm|hm
  ·cases e:V.f.ownBlock with
   | none=>rw [e] at hm;simp at hm
   | some c=>rw [e] at hm;simp at hm;subst hm;exact (h.of.lt _ e).1
  ·cases e:V.h.ownBlock with
   | none=>rw [e] at hm;simp at hm
   | some c=>rw [e] at hm;simp at hm;subst hm;exact (h.oh.lt _ e).1):p:=h
theorem Q112 {p:Prop} (h:p:=by
 have r:=eC (aC h hn hl);exact pe (bR (K':=Kn N f) r (fun b hb hk=>⟨by omega,fun e=>by have:=hf b e;omega⟩)) k (fun b h=>h.1)):p:=h
theorem Q120 {p:Prop} (h:p:=by
 simp only [List.getD,Is h2,Is h1,Is hi,IJ,List.getElem_zipWith]):p:=h
theorem Q126 {p:Prop} (h:p:=by
 refine IM (v:=.tuple #[]) (by simp [results,Tryz.results93,go_sem]) rfl (GTo.same HG.out (hb1.alloc hz1 _) ⟨rfl,rfl,rfl⟩)):p:=h
theorem Q155 {p:Prop} (h:p:=by
 rw [if_pos hik];exact bG (h.ro i hik) (by omega) (fun b h1 h2=>keep2 b h1 (by omega))):p:=h
theorem il {X:Wd} {V:Vs} (hl:V.m.length=X.health.length) {i:Nat} (hi:i<X.health.length):(eJ X V).getD i []=rD (V.m.getD i undef) (X.health.getD i Ht.zero):=by
 unfold eJ;have h1:i<V.m.length:=by omega
 have h2:i<(List.zipWith rD V.m X.health).length:=by simp;omega
 exact Q120
theorem Bq {X:Wd} {V:Vs} (hl:V.m.length=X.health.length) {i:Nat} (hi:i<X.health.length) (m:Value) (x:Ht):eJ { X with health:=X.health.set i x } { V with m:=V.m.set i m }=(eJ X V).set i (rD m x):=by
 unfold eJ;simp only;apply List.ext_getElem?;intro j;have h1:i<V.m.length:=by omega
 rw [List.getElem?_zipWith,List.getElem?_set,List.getElem?_set,List.getElem?_set,List.getElem?_zipWith];by_cases e:i=j
 ·subst e;simp [h1,hi];omega
 ·simp [e]
theorem set4 {c:List Value} (h:c.length=4) (a b d e:Value):(((c.set 0 a).set 1 b).set 2 d).set 3 e=[a,b,d,e]:=by
 match c,h with
 | [_,_,_,_],_=>rfl
theorem sA {L:List (List Value)} (hl:∀ c∈L,c.length=4) {i:Nat} (hi:i<L.length) (a b d e:Value):(((L.flatten.set (i*4) a).set (i*4+1) b).set (i*4+2) d).set (i*4+3) e=(L.set i [a,b,d,e]).flatten:=by
 have hL:(L.getD i []).length=4:=hl _ (by simp [List.getD,hi])
 have k:∀ (c:List Value),c.length=4→∀ x∈L.set i c,x.length=4:=fun c hc x hx=>by rcases List.mem_or_eq_of_mem_set hx with g|rfl;exact hl _ g;exact hc
 have g:∀ (c:List Value),(L.set i c).getD i []=c:=fun c=>by simp [List.getD,hi]
 have e0:=fN a (j:=0) (by omega) hl hi;rw [Nat.add_zero] at e0;rw [e0,fN b (by omega) (k _ (by simpa using hL)) (by simpa using hi),g,List.set_set,fN d (by omega) (k _ (by simpa using hL)) (by simpa using hi),g,List.set_set,fN e (by omega) (k _ (by simpa using hL)) (by simpa using hi),g,List.set_set,set4 hL]
theorem yP {B p:Nat} {w:World} {X:Wd} {O:List Out} {S:List Nat} {V:Vs} {vo:Value} (h:G B p w X O S V vo) {g n c:Nat} (hv:V.h=.slice (some ⟨g,0,none⟩) n c) (i:Nat) (hi:i<X.health.length) (x:Ht) (m:Value) (hm:cZ (NI B S) w 1 m (cD x.marks)) :
  G B p ((((w.setCell ⟨g,i*4,none⟩ m).setCell ⟨g,i*4+1,none⟩ (.bool x.out)).setCell ⟨g,i*4+2,none⟩ (.int .i64 x.until_)).setCell ⟨g,i*4+3,none⟩ (.int .i64 x.times)) { X with health:=X.health.set i x } O S { V with m:=V.m.set i m } vo∧
  Fr S w ((((w.setCell ⟨g,i*4,none⟩ m).setCell ⟨g,i*4+1,none⟩ (.bool x.out)).setCell ⟨g,i*4+2,none⟩ (.int .i64 x.until_)).setCell ⟨g,i*4+3,none⟩ (.int .i64 x.times)):=by
 have hg:V.h.ownBlock=some g:=by rw [hv];rfl
 obtain ⟨w',hw'⟩:∃ w',w'=((((w.setCell ⟨g,i*4,none⟩ m).setCell ⟨g,i*4+1,none⟩ (.bool x.out)).setCell ⟨g,i*4+2,none⟩ (.int .i64 x.until_)).setCell ⟨g,i*4+3,none⟩ (.int .i64 x.times)):=⟨_,rfl⟩
 have keep:∀ b,b≠g→w'.heap[b]?=w.heap[b]?:=fun b hb=>by
  rw [hw',Ii _ _ _ _ hb,Ii _ _ _ _ hb,Ii _ _ _ _ hb,Ii _ _ _ _ hb]
 have hz:w'.heap.size=w.heap.size:=by rw [hw'];simp
 have hgp:=(h.sh g hg).2.1
 have hgS:=(h.sh g hg).1
 have hml:=h.ro.ml
 have hoh:w'.ownsRow B 71 4 V.h X.health.length (((eJ X V).set i (rD m x)).flatten):=by
  have e:=h.oh;rw [hv] at e ⊢
  have hn:n=X.health.length:=by
   obtain ⟨a',c',e',_⟩:=aB e;injection e'
  rw [hn] at e ⊢;have e4:=(((e.stored (i*4) m).1.stored (i*4+1) (.bool x.out)).1.stored (i*4+2) (.int .i64 x.until_)).1.stored (i*4+3) (.int .i64 x.times);rw [sA (mu X V) (by rw [dD hml];exact hi)] at e4;rw [hw'];exact e4.1
 rw [← hw']
 have r:=dE h.ro (w':=w') (by omega) (fun b _ hb=>keep b (fun e=>hb.1 (by rw [e];exact hgS)))
 refine ⟨⟨(keep p (fun e=>hgp e.symm)).trans h.bk,⟨r.ta,r.li,r.re,r.sp,r.wh,by simpa using hml,fun j hj=>?_⟩,aY h.of (fun b e=>keep b (fun e'=>(h.sh g hg).2.2 (by rw [← e'];exact e))),?_,aY h.oo (fun b e=>keep b (fun e'=>(h.so b e).2.2.2 (by rw [e'];exact hg))),h.pB,h.sp,h.sB,fun x hx=>by rw [hz];exact h.sl x hx,h.sf,h.sh,h.so⟩,⟨?_,?_,?_,by omega,fun b _ hb=>keep b (fun e=>hb (by rw [e];exact hgS))⟩⟩
 ·simp only [Ix] at hj;have hj':j<V.m.length:=by omega
  by_cases e:j=i
  ·subst e;simp only [List.getD,List.getElem?_set_self hj',List.getElem?_set_self hj,IJ];exact bG hm (by omega) (fun b _ hb=>keep b (fun e=>hb.1 (by rw [e];exact hgS)))
  ·have e':¬ i=j:=fun q=>e q.symm;simp only [List.getD,List.getElem?_set_ne e'];exact r.mr j hj
 ·show World.ownsRow _ _ _ _ V.h (X.health.set i x).length (eJ { X with health:=X.health.set i x } { V with m:=V.m.set i m }).flatten
  rw [Bq hml hi,Ix];exact hoh
 ·rw [hw']
  rfl
 ·rw [hw']
  rfl
 ·rw [hw']
  rfl
def iT (H:List Ht) (b:Int):Bool:=(H.getD b.toNat Ht.zero).out
def wY (L:List Lf):Nat:=L.countP fun x=>x.state == 2
def xV (L:List Lf) (H:List Ht):Nat:=L.countP fun x=>x.state == 2 && iT H x.backend
theorem BX {L:List Lf} {k:Nat} (hk:k<L.length):wY (L.take (k+1))=wY (L.take k)+if (L.getD k Lf.zero).state == 2 then 1 else 0:=by
 unfold wY;exact Q95
theorem AG {L:List Lf} {H:List Ht} {k:Nat} (hk:k<L.length):xV (L.take (k+1)) H=xV (L.take k) H+if (L.getD k Lf.zero).state == 2 && iT H (L.getD k Lf.zero).backend then 1 else 0:=by
 unfold xV;exact Q95
theorem FN (L:List Lf) (H:List Ht):xV L H≤wY L:=List.countP_mono_left (fun x _ h=>by simp at h;simp [h.1])
theorem GW (L:List Lf):wY L≤L.length:=List.countP_le_length
def BU (X:Wd):Bool:=decide (((xV X.lives X.health:Int)+1)*100≤X.cf.most*(wY X.lives:Int))
def iV (c:Cf) (h:Ht) (failed:Bool) (now:Int) (may:Bool):Ht:=
 if h.out=false∧may=true∧c.wf≤iW (gx h.marks failed c.ww) then ⟨[],true,now+mB c.wh h.times,min (h.times+1) 10⟩ else { h with marks:=gx h.marks failed c.ww }
def bO (X:Wd) (b:Nat) (failed:Bool):Wd:={ X with health:=X.health.set b (iV X.cf (X.health.getD b Ht.zero) failed X.now (BU X && gp X.lives b == 2)) }
theorem yO (c:Cf) (h:Ht) (failed:Bool) (now:Int) (may:Bool) (h0:gb c.ww c.wf c.wh h.marks.length h.out h.until_ h.times now 0) :
  ∃ came,zX c.ww c.wf c.wh h.marks h.out h.until_ h.times failed now may (iV c h failed now may).marks (iV c h failed now may).out (iV c h failed now may).until_ (iV c h failed now may).times came 0:=by
 unfold iV
 by_cases hc:h.out=false∧may=true∧c.wf≤iW (gx h.marks failed c.ww)
 ·rw [if_pos hc];exact ⟨true,h0,Or.inr (Or.inl ⟨rfl,hc.1,hc.2.1,hc.2.2,rfl,rfl,rfl,rfl,rfl⟩)⟩
 ·rw [if_neg hc];refine ⟨false,h0,Or.inr (Or.inr ⟨rfl,?_,rfl,rfl,rfl,rfl,rfl⟩)⟩
  cases ho:h.out with
  | true=>exact Or.inl rfl
  | false=>
   cases may with
   | false=>exact Or.inr (Or.inl ⟨rfl,rfl⟩)
   | true=>exact Or.inr (Or.inr ⟨rfl,rfl,by simp [ho] at hc;omega⟩)
theorem tD (o a m:Int) (w:World) (h1:0≤o) (h2:o≤a) (h3:a≤12) (h4:0≤m) (h5:m≤100):Calls Tryz.prog 149 #[.int .i64 o,.int .i64 a,.int .i64 m] w fun e w'=>e=.returned (.tuple #[.bool (decide ((o+1)*100≤m*a)),.int .i64 0])∧Below w.heap.size w w':=by
 obtain ⟨y,hy⟩:∃ y,y=m*a:=⟨_,rfl⟩
 have b1:0≤y:=by rw [hy];exact Int.mul_nonneg h4 (by omega)
 have b2:y≤1200:=by rw [hy];exact Int.le_trans (Int.mul_le_mul h5 h3 (by omega) (by omega)) (by omega)
 have ew:IntKind.i64.wrap (m*a)=y:=by rw [← hy,IntKind.wrap_i64];omega
 rw [← hy];clear hy;by_cases hd:(o+1)*100≤y
 ·rw [decide_eq_true hd];go_enter Tryz.func149,Tryz.ntmps149;go_wp2
  all_goals first|(refine IM (v:=.tuple #[.bool true,.int .i64 0]) ?_ rfl ?_;(focus (first|(simp [results,Tryz.results149,go_sem];done)|(simp [results,Tryz.results149,go_sem, *];done)));exact ⟨rfl,Zb⟩)|exact Zx
 ·rw [decide_eq_false hd];have hd':y<(o+1)*100:=by omega
  go_enter Tryz.func149,Tryz.ntmps149;go_wp2
  all_goals first|(refine IM (v:=.tuple #[.bool false,.int .i64 0]) ?_ rfl ?_;(focus (first|(simp [results,Tryz.results149,go_sem];done)|(simp [results,Tryz.results149,go_sem, *];done)));exact ⟨rfl,Zb⟩)|exact Zx
def ju (L:List Lf) (b:Int):List Lf:=match L.findIdx? (cq b) with
 | some i=>L.set i (L.getD i Lf.zero).done
 | none=>L
def bP (X:Wd) (b:Int):Wd×List Out:=match cW X.lives b with
 | some x=>if x.state=3∧iO X.tab b X.tab.length=[] then ({ X with lives:=ju X.lives b },[⟨9,0,0,b,x.request,0,0⟩]) else (X,[])
 | none=>(X,[])
theorem wj {L:List Lf} {b:Int} {i:Nat} (h:aN (cq b) L=i):ju L b=L.set i (L.getD i Lf.zero).done:=by
 unfold aN at h;unfold ju
 cases e:L.findIdx? (cq b) with
 | none=>rw [e] at h;simp at h
 | some j=>rw [e] at h;obtain rfl:j=i:=(by have h':(j:Int)=i:=h;omega);rfl
theorem ut {L:List Lf} {R:List Rq} {b:Int} {x:Lf} (hm:bF L R) (h:cW L b=some x) (hs:x.state=3):I7 L R b (ju L b) R 0:=by
 rcases b8 (cq b) L Lf.zero with ⟨h1,_⟩|⟨i,hi,h1,_⟩
 ·rw [(fD L b).1 h1] at h
  cases h
 ·rw [(fD L b).2 i h1 hi] at h;injection h with h;exact Or.inr (Or.inr (Or.inr ⟨hm,⟨i,hi,h1,by rw [h];exact hs,wj h1⟩,rfl,rfl⟩))
theorem GTo.same {B p:Nat} {w w':World} {X:Wd} {O:List Out} {S:List Nat} {V:Vs} {vo:Value} (h:G B p w X O S V vo) (hb:Below w.heap.size w w') {Q:Vs→Prop} (hQ:Q V) {r:Value}:GTo B p w S X O Q r (.returned r) w':=
 ⟨S,V,vo,rfl,dA h hb,hQ,Fr.of_below hb,fun _ hx=>Or.inl hx⟩
def I6 (V V':Vs):Prop:=V'.f=V.f∧V'.h=V.h∧V'.m=V.m
theorem kb {B p:Nat} {w:World} {X:Wd} {O:List Out} {S:List Nat} {V:Vs} {vo:Value} (h:G B p w X O S V vo) (b:Int) (hm:bF X.lives X.reqs) (ht:dM X.tab) (hO:O.length≤1000000) :
  Calls Tryz.prog 93 #[.pointer (some ⟨p,0,none⟩),.int .i64 b] w (GTo B p w S (bP X b).1 (O++(bP X b).2) (I6 V) (.tuple #[])):=by
 have hgr:=h.gr
 have x19:=hgr.c 19 (v:=V.l) rfl
 have x20:=hgr.c 20 (v:=V.r) rfl
 have x17:=hgr.c 17 (v:=V.t) rfl
 have xf:∀ n,w.frozen? ⟨p,n,none⟩=false:=fun n=>ap h.bk n
 obtain ⟨al,cl,el,_⟩:=aj hgr.1.li.1
 obtain ⟨ar,cr,er,_⟩:=aj hgr.1.re.1
 obtain ⟨at_,ct,et,_⟩:=aj hgr.1.ta.1
 rw [el] at x19
 rw [er] at x20
 rw [et] at x17
 have HL:=Ib hgr.1.li.1
 have HR:=Ib hgr.1.re.1
 have HT:=Ib hgr.1.ta.1
 rw [el] at HL
 rw [er] at HR
 rw [et] at HT
 obtain ⟨x,code,ha⟩:=oj X.lives X.reqs b
 have HA:=Ib ha
 have hs:=xo hm ha
 have hp:=h.plt
 have HG:=Ib h
 have HM:=Ib hm
 have HTm:=Ib ht
 rcases hs with ⟨rfl,hs,rfl⟩|⟨rfl,hs⟩
 ·have e:bP X b=(X,[]):=by unfold bP;rw [hs]
  rw [e];simp only [List.append_nil];clear h hm ha hs e el er et hgr ht;go_enter Tryz.func93,Tryz.ntmps93;go_wp2_with (go_at_call 96;refine (iD _ _ X.lives X.reqs b ⟨0,0,0,0,0,0⟩ 8 _ HL.out HR.out HA.out).mono ?_;rintro e w1 ⟨he,hb1⟩;simp only [Lf.agg] at he;subst he;obtain ⟨hc1,hf1⟩:=aV hb1;have hz1:=hb1.size;have hp1:p<w1.heap.size:=(by omega));exact Q126
 ·obtain ⟨x0,x1,x2,x3,x4,x5⟩:=x;by_cases hst:x1=3;rotate_left
  ·have e:bP X b=(X,[]):=by unfold bP;rw [hs];simp only;rw [if_neg (fun h=>hst h.1)]
   rw [e];simp only [List.append_nil];have e1:(x1 != 3)=true:=by simpa using hst
   clear h hm ha hs e el er et hgr ht hst;go_enter Tryz.func93,Tryz.ntmps93;go_wp2_with (go_at_call 96;refine (iD _ _ X.lives X.reqs b ⟨x0,x1,x2,x3,x4,x5⟩ 0 _ HL.out HR.out HA.out).mono ?_;rintro e w1 ⟨he,hb1⟩;simp only [Lf.agg] at he;subst he;obtain ⟨hc1,hf1⟩:=aV hb1;have hz1:=hb1.size;have hp1:p<w1.heap.size:=(by omega));exact Q126
  ·subst hst;have hfn:=ut hm hs rfl;obtain ⟨OL,hOL⟩:∃ OL,OL=iO X.tab b X.tab.length:=⟨_,rfl⟩;by_cases hol:OL=[];rotate_left
   ·have e:bP X b=(X,[]):=by unfold bP;rw [hs];simp only;rw [if_neg (fun h=>hol (hOL.trans h.2))]
    rw [e];simp only [List.append_nil]
    have e1:(0:Int)<(OL.length:Int):=by have:=List.length_pos_iff.2 hol;omega
    have HOL:=Ib hOL;clear h hm ha hs e el er et hgr ht hol hOL hfn;go_enter Tryz.func93,Tryz.ntmps93;go_wp2_with (first|(go_at_call 96;refine (iD _ _ X.lives X.reqs b ⟨x0,3,x2,x3,x4,x5⟩ 0 _ HL.out HR.out HA.out).mono ?_;rintro e w1 ⟨he,hb1⟩;simp only [Lf.agg] at he;subst he;obtain ⟨hc1,hf1⟩:=aV hb1;have hz1:=hb1.size;have hp1:p<w1.heap.size:=(by omega))|(go_at_call 101;refine (nV X.tab b _ _ (ah (aq HT.out hb1) _) HTm.out).mono ?_;rw [← HOL.out];rintro e w2 ⟨v2,rfl,r2,hb2⟩;obtain ⟨a2,c2,rfl,_⟩:=aj r2;obtain ⟨hc2,hf2⟩:=aV hb2;clear r2));refine IM (v:=.tuple #[]) (by simp [results,Tryz.results93,go_sem]) rfl (GTo.same HG.out ((hb1.alloc hz1 _).trans (hb2.mono (by simp;omega))) ⟨rfl,rfl,rfl⟩)
   ·subst hol
    have e:bP X b=({ X with lives:=ju X.lives b },[⟨9,0,0,b,x5,0,0⟩]):=by unfold bP;rw [hs];simp only;rw [if_pos ⟨trivial,hOL.symm⟩]
    rw [e];have HOL:=Ib hOL;have HFn:=Ib hfn;clear h hm ha hs e el er et hgr ht hOL hfn;go_enter Tryz.func93,Tryz.ntmps93;go_wp2_with (first|(go_at_call 96;refine (iD _ _ X.lives X.reqs b ⟨x0,3,x2,x3,x4,x5⟩ 0 _ HL.out HR.out HA.out).mono ?_;rintro e w1 ⟨he,hb1⟩;simp only [Lf.agg] at he;subst he;obtain ⟨hc1,hf1⟩:=aV hb1;have hz1:=hb1.size;have hp1:p<w1.heap.size:=(by omega))|(go_at_call 101;refine (nV X.tab b _ _ (ah (aq HT.out hb1) _) HTm.out).mono ?_;rw [← HOL.out];rintro e w2 ⟨v2,rfl,r2,hb2⟩;obtain ⟨a2,c2,rfl,_⟩:=aj r2;obtain ⟨hc2,hf2⟩:=aV hb2;clear r2));have bw2:Below w.heap.size w w2:=(hb1.alloc hz1 _).trans (hb2.mono (by simp;omega));have y5:w2.cell? ⟨w1.heap.size,5,none⟩=some (.int .i64 x5):=ae hb2 (by go_simp) (by simp);have hz2:=hb2.size;simp at hz2;refine (AB _ _ X.lives X.reqs b (ju X.lives b) X.reqs 0 _ (aq HL.out bw2) (aq HR.out bw2) HFn.out).mono ?_;rintro e w3 ⟨v1,v2,rfl,R1,R2,hb3⟩;obtain ⟨a3,c3,rfl,_⟩:=aj R1.1;obtain ⟨a4,c4,rfl,_⟩:=aj R2.1;have bw3:Below w.heap.size w w3:=bw2.trans (hb3.mono bw2.size);have y5:=ae hb3 y5 (by omega);have x19:=ae bw3 x19 hp;have x20:=ae bw3 x20 hp;have xf:∀ n,w3.frozen? ⟨p,n,none⟩=false:=fun n=>(bw3.frozen (p:=⟨p,n,none⟩) hp).trans (xf n);have hz3:=hb3.size;have n1:¬ w1.heap.size=p:=by omega
    have n2:¬ p=w1.heap.size:=by omega
    have G3:=dA HG.out bw3;have k1:=dl HG.out R1 bw2.size;have k2:=dl HG.out R2 bw2.size;have G4:=iN G3 19 (.slice a3 (ju X.lives b).length c3) { X with lives:=ju X.lives b } { V with l:=.slice a3 (ju X.lives b).length c3 } rfl rfl rfl rfl rfl rfl { G3.ro with li:=k1 }
    have k3:cZ (NI B S) (w3.setCell ⟨p,19,none⟩ (.slice a3 (ju X.lives b).length c3)) 5 (.slice a4 X.reqs.length c4) (X.reqs.map Rq.cells):=
     bG k2 (by simp) (fun b' _ hb'=>Ii _ _ _ _ (fun e=>hb'.1 (by have e':b'=p:=e;rw [e'];exact G3.sp)))
    have G5:=iN G4 20 (.slice a4 X.reqs.length c4) { X with lives:=ju X.lives b } { V with l:=.slice a3 (ju X.lives b).length c3,r:=.slice a4 X.reqs.length c4 } rfl rfl rfl rfl rfl rfl { G4.ro with re:=k3 };have H5:=Ib G5;have F4:Fr S w _:=(Fr.of_below bw3).trans ((cX G3.sp 19 (.slice a3 (ju X.lives b).length c3)).trans (cX G3.sp 20 (.slice a4 X.reqs.length c4)) (fun _ hx=>Or.inl hx)) (fun _ hx=>Or.inl hx);have HF4:=Ib F4;clear R1 R2 hb3 G3 k1 k2 k3 G4 G5 F4 bw2 hb2 hb1;go_wp2_with fail;refine (dm H5.out ⟨9,0,0,b,x5,0,0⟩ hO).mono ?_;rintro e w5 ⟨S5,V5,vo5,rfl,G6,rfl,F5,hS5⟩;have HG6:=Ib G6;have HF5:=Ib (HF4.out.trans F5 (fun _ hx=>Or.inl hx));have HS5:=Ib hS5;have hz4:=HF4.out.size;clear G6 F5 hS5;go_wp2_with fail;refine IM (v:=.tuple #[]) (by simp [results,Tryz.results93,go_sem]) rfl ⟨S5,_,vo5,rfl,HG6.out,⟨rfl,rfl,rfl⟩,HF5.out,fun x hx=>?_⟩;rcases HS5.out x hx with g|g
    ·exact Or.inl g
    ·exact Or.inr (by omega)
structure WA (w:World) (X:Wd) (V:Vs):Prop where
 ro:nJ (fun _=>True) w X V
 fl:aG w 7 V.f (X.flows.map Fl.cells)
 he:aG w 4 V.h (eJ X V)
theorem WA.below {w w':World} {X:Wd} {V:Vs} (h:WA w X V) (hb:Below w.heap.size w w'):WA w' X V:=
 ⟨dE h.ro hb.size (fun b hb' _=>hb.block b hb'),aq h.fl hb,aq h.he hb⟩
def Kp (N:Nat) (W W':World):Prop:=W.heap.size≤W'.heap.size∧∀ b,N≤b→b<W.heap.size→W'.heap[b]?=W.heap[b]?
theorem Kp.refl (N:Nat) (W:World):Kp N W W:=⟨Ij _,fun _ _ _=>rfl⟩
theorem Kp.trans {N:Nat} {a b c:World} (h:Kp N a b) (k:Kp N b c):Kp N a c:=⟨IG h.1 k.1,fun x h1 h2=>(k.2 x h1 (Nat.lt_of_lt_of_le h2 h.1)).trans (h.2 x h1 h2)⟩
theorem Kp.of_below {N:Nat} {W W':World} (h:Below W.heap.size W W'):Kp N W W':=⟨h.size,fun b _ hb=>h.block b hb⟩
theorem Kp.set {N p:Nat} {W W':World} (h:Kp N W W') (hp:p<N) (j:Nat) (u:Value):Kp N W (W'.setCell ⟨p,j,none⟩ u):=⟨by simpa using h.1,fun b h1 h2=>(Ii _ _ _ _ (fun e:b=p=>by omega)).trans (h.2 b h1 h2)⟩
theorem Kp.alloc {N:Nat} {W W':World} (h:Kp N W W') (o:Obj):Kp N W (W'.alloc o):=⟨by have:=h.1;simp;omega,fun b h1 h2=>(If _ _ _ (by have:=h.1;omega)).trans (h.2 b h1 h2)⟩
def Kn (N:Nat) (v:Value) (b:Nat):Prop:=N≤b∧v.ownBlock≠some b
structure CpA (N:Nat) (W:World) (X:Wd) (V:Vs):Prop where
 ta:cZ (Kn N V.f) W 4 V.t (X.tab.map Sl.cells)
 li:cZ (Kn N V.f) W 6 V.l (X.lives.map Lf.cells)
 re:cZ (Kn N V.f) W 5 V.r (X.reqs.map Rq.cells)
 sp:cZ (Kn N V.f) W 2 V.s (X.ring.map Sp.cells)
 of:W.ownsRow N 112 7 V.f X.flows.length (X.flows.map Fl.cells).flatten
theorem pe {N:Nat} {K:Nat→Prop} {W W':World} {sz:Nat} {v:Value} {L:List (List Value)} (h:cZ K W sz v L) (k:Kp N W W') (hK:∀ b,K b→N≤b):cZ K W' sz v L:=bG h k.1 (fun b h1 h2=>k.2 b (hK b h2) h1)
theorem nr {N B sz n:Nat} {W W':World} {t:TypeId} {v:Value} {cs:List Value} (h:W.ownsRow B t sz v n cs) (k:Kp N W W') (hN:N≤B):W'.ownsRow B t sz v n cs:=aY h (fun b e=>k.2 b (by have:=(h.lt b e).1;omega) (h.lt b e).2)
structure CpZ (N:Nat) (W:World) (X:Wd) (V:Vs):Prop where
 ro:nJ (fun b=>N≤b∧V.f.ownBlock≠some b∧V.h.ownBlock≠some b) W X V
 of:W.ownsRow N 112 7 V.f X.flows.length (X.flows.map Fl.cells).flatten
 oh:W.ownsRow N 71 4 V.h X.health.length (eJ X V).flatten
 ne:∀ b,V.f.ownBlock=some b→V.h.ownBlock≠some b
theorem CpZ.kp {N:Nat} {W W':World} {X:Wd} {V:Vs} (h:CpZ N W X V) (k:Kp N W W'):CpZ N W' X V:=
 ⟨dE h.ro k.1 (fun b h1 h2=>k.2 b h2.1 h1),nr h.of k (Ij _),nr h.oh k (Ij _),h.ne⟩
theorem jK {N:Nat} {W:World} {X:Wd} {V:Vs} (h:CpZ N W X V) (hN:N≤W.heap.size):∃ S,G N W.heap.size (W.alloc (.cells (cQ X V++[Value.slice none 0 0]).toArray 126)) X [] S V (.slice none 0 0)∧∀ x∈S,N≤x:=by
 have k:Kp N W (W.alloc (.cells (cQ X V++[Value.slice none 0 0]).toArray 126)):=(Kp.refl N W).alloc _;have h':=h.kp k;refine ⟨W.heap.size :: ((match V.f.ownBlock with|some b=>[b]|none=>[])++(match V.h.ownBlock with|some b=>[b]|none=>[])),?_,?_⟩
 ·refine { bk:=au _ rfl,ro:=?_,of:=h'.of,oh:=h'.oh,oo:=IK _ _ _ _,pB:=hN,sp:=ID ..,sB:=?_,sl:=?_,sf:=?_,sh:=?_,so:=fun b hb=>by simp [Value.ownBlock] at hb }
  ·refine dE (gQ h.ro (fun b hb hk=>⟨fun hm=>?_,hk.1⟩)) k.1 (fun b hb _=>If _ _ _ hb);rcases List.mem_cons.1 hm with rfl|hm
   ·omega
   ·rcases List.mem_append.1 hm with hm|hm
    ·cases e:V.f.ownBlock with
     | none=>rw [e] at hm;simp at hm
     | some c=>rw [e] at hm;simp at hm;subst hm;exact hk.2.1 e
    ·cases e:V.h.ownBlock with
     | none=>rw [e] at hm;simp at hm
     | some c=>rw [e] at hm;simp at hm;subst hm;exact hk.2.2 e
  ·exact Q51
  ·intro x hx;have hz:W.heap.size<(W.alloc (.cells (cQ X V++[Value.slice none 0 0]).toArray 126)).heap.size:=by simp
   rcases List.mem_cons.1 hx with rfl|hm
   ·exact hz
   ·rcases List.mem_append.1 hm with hm|hm
    ·cases e:V.f.ownBlock with
     | none=>rw [e] at hm;simp at hm
     | some c=>rw [e] at hm;simp at hm;subst hm;exact Nat.lt_trans (h.of.lt _ e).2 hz
    ·cases e:V.h.ownBlock with
     | none=>rw [e] at hm;simp at hm
     | some c=>rw [e] at hm;simp at hm;subst hm;exact Nat.lt_trans (h.oh.lt _ e).2 hz
  ·intro b e;exact ⟨by simp [e],by have:=(h.of.lt b e).2;omega⟩
  ·intro b e;exact ⟨by simp [e],by have:=(h.oh.lt b e).2;omega,fun g=>h.ne b g e⟩
 ·exact Q51
def oI (ms:List Value) (H:List Ht) (n k:Nat):List (List Value):=List.zipWith rD ms (H.take k)++iI (n - k)
theorem hcpL_0 (H:List Ht) (n:Nat):oI [] H n 0=iI n:=by simp [oI]
theorem vT {ms:List Value} {H:List Ht} {n k:Nat} (hm:ms.length=k) (hn:H.length=n) (hk:k≤n):(oI ms H n k).length=n:=by
 unfold oI;simp [i9];omega
theorem DT (ms:List Value) (H:List Ht) (n k:Nat):∀ c∈oI ms H n k,c.length=4:=by
 intro c hc;rcases List.mem_append.1 hc with hc|hc
 ·obtain ⟨i,hi,rfl⟩:=List.mem_iff_getElem.1 hc;simp [rD]
 ·exact kP _ c hc
theorem Br {ms:List Value} {H:List Ht} {n k:Nat} (hm:ms.length=k) (hn:H.length=n) (hk:k<n) (m:Value):(oI ms H n k).set k (rD m (H.getD k Ht.zero))=oI (ms++[m]) H n (k+1):=by
 have hkl:k<H.length:=by omega
 unfold oI
 have hz:(List.zipWith rD ms (H.take k)).length=k:=by simp;omega
 have e1:iI (n - k)=[.slice none 0 0,.bool false,.int .i64 0,.int .i64 0] :: iI (n - (k+1)):=by
  unfold iI;rw [show n - k=(n - (k+1))+1 by omega,List.replicate_succ]
 rw [e1,List.set_append_right k _ (by omega),hz,Nat.sub_self,List.set_cons_zero]
 have e2:H.take (k+1)=H.take k++[H.getD k Ht.zero]:=by
  rw [Ir hkl];simp [List.getD,hkl]
 rw [e2,List.zipWith_append (by simp;omega)];simp
theorem DS {X:Wd} {V:Vs} {n:Nat} (hn:X.health.length=n):oI V.m X.health n n=eJ X V:=by
 unfold oI eJ;rw [← hn,List.take_length];simp [iI]
def oH (vs:List Value) (n k:Nat):List (List Value):=vs.map (fun x=>[x])++List.replicate (n - k) [.slice none 0 0]
theorem tT (vs:List Value) (n k:Nat):∀ c∈oH vs n k,c.length=1:=by
 intro c hc;rcases List.mem_append.1 hc with hc|hc
 ·obtain ⟨x,_,rfl⟩:=II.1 hc
  rfl
 ·rw [List.eq_of_mem_replicate hc]
  rfl
theorem qt {vs:List Value} {n k:Nat} (hv:vs.length=k) (hk:k≤n):(oH vs n k).length=n:=by unfold oH;simp;omega
theorem AQ {vs:List Value} {n k:Nat} (hv:vs.length=k) (hk:k<n) (m:Value):(oH vs n k).flatten.set k m=(oH (vs++[m]) n (k+1)).flatten:=by
 unfold oH
 have e1:List.replicate (n - k) [Value.slice none 0 0]=[.slice none 0 0] :: List.replicate (n - (k+1)) [Value.slice none 0 0]:=by
  rw [show n - k=(n - (k+1))+1 by omega,List.replicate_succ]
 have e2:∀ vs:List Value,(vs.map fun x=>[x]).flatten=vs:=fun vs=>by induction vs with|nil=>rfl|cons a vs ih=>rw [List.map_cons,List.flatten_cons,ih];rfl
 rw [IC,IC,e1,e2,e2,List.set_append_right k _ (by omega),hv,Nat.sub_self];simp
structure HcS (w W5:World) (A:Array Value) (X:Wd) (k:Nat) (ms:List Value) (wr:World):Prop where
 ml:ms.length=k
 be:Below w.heap.size w wr
 c0:wr.heap[w.heap.size]?=some (.cells A 54 (0,0))
 c1:wr.heap[w.heap.size+1]?=some (.cells bQ 54 (0,0))
 kp:Kp (w.heap.size+2) W5 wr
 lt:W5.heap.size<wr.heap.size
 ow:wr.ownsRow (w.heap.size+2) 71 4 (.slice (some ⟨W5.heap.size,0,none⟩) 12 12) 12 (oI ms X.health 12 k).flatten
 ro:∀ i,i<k→cZ (fun b=>W5.heap.size<b) wr 1 (ms.getD i undef) (cD (X.health.getD i Ht.zero).marks)
theorem vV {ms:List Value} {m:Value} {i k:Nat} (hl:ms.length=k) (hi:i<k+1):(ms++[m]).getD i undef=if i<k then ms.getD i undef else m:=by
 by_cases h:i<k
 ·rw [if_pos h];simp only [List.getD];rw [IR (by omega)]
 ·rw [if_neg h];simp only [List.getD];rw [IS (by omega)];have:i - ms.length=0:=by omega
  rw [this]
  rfl
theorem Es (M:List Bool):∀ c∈cD M,c.length=1:=by
 intro c hc;unfold cD at hc;obtain ⟨x,_,rfl⟩:=II.1 hc
 rfl
theorem HcS.next {w W5 wr w6:World} {A:Array Value} {X:Wd} {k n:Nat} {ms:List Value} {m':Value} {BT:TypeId} (h:HcS w W5 A X k ms wr) (hk:k<12) (hX:X.health.length=12) (hN:w.heap.size+2≤W5.heap.size) (o:Obj)
  (hb6:Below (wr.alloc o).heap.size (wr.alloc o) w6) (own6:w6.ownsRow (wr.alloc o).heap.size BT 1 m' n (cD (X.health.getD k Ht.zero).marks).flatten) (hn:(cD (X.health.getD k Ht.zero).marks).length=n) :
  HcS w W5 A X (k+1) (ms++[m']) (((((w6.setCell ⟨wr.heap.size,0,none⟩ m').setCell ⟨W5.heap.size,k*4,none⟩ m').setCell ⟨W5.heap.size,k*4+1,none⟩ (.bool (X.health.getD k Ht.zero).out)).setCell ⟨W5.heap.size,k*4+2,none⟩ (.int .i64 (X.health.getD k Ht.zero).until_)).setCell ⟨W5.heap.size,k*4+3,none⟩ (.int .i64 (X.health.getD k Ht.zero).times)):=by
 have hlt:=h.lt
 have hws:=h.be.size
 have z1:(wr.alloc o).heap.size=wr.heap.size+1:=by simp
 have b6:Below w.heap.size w w6:=(h.be.alloc hws o).trans (hb6.mono (by omega))
 have s6:wr.heap.size+1≤w6.heap.size:=by have:=hb6.size;omega
 have k6:∀ b,b<wr.heap.size→w6.heap[b]?=wr.heap[b]?:=fun b hb=>(hb6.block b (by omega)).trans (If _ _ _ hb)
 generalize hW:(((((w6.setCell ⟨wr.heap.size,0,none⟩ m').setCell ⟨W5.heap.size,k*4,none⟩ m').setCell ⟨W5.heap.size,k*4+1,none⟩ (.bool (X.health.getD k Ht.zero).out)).setCell ⟨W5.heap.size,k*4+2,none⟩ (.int .i64 (X.health.getD k Ht.zero).until_)).setCell ⟨W5.heap.size,k*4+3,none⟩ (.int .i64 (X.health.getD k Ht.zero).times))=W
 have keep:∀ b,b≠W5.heap.size→b≠wr.heap.size→W.heap[b]?=w6.heap[b]?:=fun b h1 h2=>by
  rw [← hW,Ii _ _ _ _ h1,Ii _ _ _ _ h1,Ii _ _ _ _ h1,Ii _ _ _ _ h1,Ii _ _ _ _ h2]
 have hz:W.heap.size=w6.heap.size:=by rw [← hW];simp
 have keep2:∀ b,b<wr.heap.size→b≠W5.heap.size→W.heap[b]?=wr.heap[b]?:=fun b h1 h2=>(keep b h2 (by omega)).trans (k6 b h1)
 refine ⟨by simp [h.ml],?_,(keep2 _ (lt_of_block h.c0) (by omega)).trans h.c0,(keep2 _ (lt_of_block h.c1) (by omega)).trans h.c1,⟨by omega,fun b h1 h2=>(keep2 b (by omega) (by omega)).trans (h.kp.2 b h1 h2)⟩,by omega,?_,fun i hi=>?_⟩
 ·rw [← hW];have h5:w.heap.size≤W5.heap.size:=by omega
  exact ((((b6.setCell hws _).setCell h5 _).setCell h5 _).setCell h5 _).setCell h5 _
 ·have e:=aY (w':=w6.setCell ⟨wr.heap.size,0,none⟩ m') h.ow (fun b hb=>by
   simp only [Value.ownBlock,Option.some.injEq] at hb
   rw [Ii _ _ _ _ (fun e:b=wr.heap.size=>by omega)];exact k6 b (by omega))
  have e4:=(((e.stored (k*4) m').1.stored (k*4+1) (.bool (X.health.getD k Ht.zero).out)).1.stored (k*4+2) (.int .i64 (X.health.getD k Ht.zero).until_)).1.stored (k*4+3) (.int .i64 (X.health.getD k Ht.zero).times);rw [sA (DT _ _ _ _) (by rw [vT h.ml hX (by omega)];exact hk)] at e4;rw [hW] at e4;rw [← Br h.ml hX hk m'];exact e4.1
 ·rw [vV h.ml hi];by_cases hik:i<k
  ·exact Q155
  ·rw [if_neg hik];have:i=k:=by omega
   subst this;have r:=eC (aC own6 hn (Es _));exact bG (bR (K':=fun b=>wr.heap.size+1≤b) r (fun b _ hb=>by omega)) (by omega) (fun b h1 h2=>keep b (by omega) (by omega)) |> fun q=>bR q (fun b _ hb=>by omega)
structure LcS (w W6:World) (A:Array Value) (X:Wd) (k:Nat) (vs:List Value) (wr:World):Prop where
 ml:vs.length=k
 be:Below w.heap.size w wr
 c0:wr.heap[w.heap.size]?=some (.cells A 54 (0,0))
 c1:wr.heap[w.heap.size+1]?=some (.cells bQ 54 (0,0))
 kp:Kp (w.heap.size+2) W6 wr
 lt:W6.heap.size<wr.heap.size
 ow:wr.ownsRow (w.heap.size+2) 177 1 (.slice (some ⟨W6.heap.size,0,none⟩) 25 25) 25 (oH vs 25 k).flatten
 ro:∀ i,i<k→cZ (fun b=>W6.heap.size<b) wr 2 (vs.getD i undef) ((X.lists.getD i []).map Tm.cells)
theorem LcS.next {w W6 wr w7:World} {A:Array Value} {X:Wd} {k n:Nat} {vs:List Value} {v':Value} {BT:TypeId} (h:LcS w W6 A X k vs wr) (hk:k<25) (hN:w.heap.size+2≤W6.heap.size)
  (hb7:Below wr.heap.size wr w7) (own7:w7.ownsRow wr.heap.size BT 2 v' n ((X.lists.getD k []).map Tm.cells).flatten) (hn:((X.lists.getD k []).map Tm.cells).length=n) :
  LcS w W6 A X (k+1) (vs++[v']) (w7.setCell ⟨W6.heap.size,k,none⟩ v'):=by
 have hlt:=h.lt
 have hws:=h.be.size
 have b7:Below w.heap.size w w7:=h.be.trans (hb7.mono hws)
 have s7:=hb7.size
 have keep:∀ b,b≠W6.heap.size→(w7.setCell ⟨W6.heap.size,k,none⟩ v').heap[b]?=w7.heap[b]?:=fun b h1=>Ii _ _ _ _ h1
 have hz:(w7.setCell ⟨W6.heap.size,k,none⟩ v').heap.size=w7.heap.size:=by simp
 have keep2:∀ b,b<wr.heap.size→b≠W6.heap.size→(w7.setCell ⟨W6.heap.size,k,none⟩ v').heap[b]?=wr.heap[b]?:=fun b h1 h2=>(keep b h2).trans (hb7.block b h1)
 refine ⟨by simp [h.ml],b7.setCell (show w.heap.size≤W6.heap.size by omega) _,(keep2 _ (lt_of_block h.c0) (by omega)).trans h.c0,(keep2 _ (lt_of_block h.c1) (by omega)).trans h.c1,⟨by omega,fun b h1 h2=>(keep2 b (by omega) (by omega)).trans (h.kp.2 b h1 h2)⟩,by omega,?_,fun i hi=>?_⟩
 ·have e:=aY (w':=w7) h.ow (fun b hb=>by
   simp only [Value.ownBlock,Option.some.injEq] at hb
   exact hb7.block b (by omega))
  have e4:=e.stored k v';rw [AQ h.ml hk v'] at e4;exact e4.1
 ·rw [vV h.ml hi];by_cases hik:i<k
  ·exact Q155
  ·rw [if_neg hik];have:i=k:=by omega
   subst this;have r:=eC (aC own7 hn (by intro c hc;obtain ⟨x,_,rfl⟩:=II.1 hc;rfl));exact bG (bR (K':=fun b=>wr.heap.size≤b) r (fun b _ hb=>by omega)) (by omega) (fun b h1 h2=>keep b (by omega)) |> fun q=>bR q (fun b _ hb=>by omega)
theorem CpZ.mk2 {w W5 W6 W7 W8 Wz:World} {A1 A2:Array Value} {X:Wd} {V:Vs} {ms vs:List Value} (hA:CpA (w.heap.size+2) W5 X V) (hH:HcS w W5 A1 X 12 ms W6) (k6:Kp (w.heap.size+2) W6 W7) (hL:LcS w W7 A2 X 25 vs W8) (kz:Kp (w.heap.size+2) W8 Wz)
  (hN:w.heap.size+2≤W5.heap.size) (hX:X.health.length=12) (hY:X.lists.length=25) :
  CpZ (w.heap.size+2) Wz X { V with h:=.slice (some ⟨W5.heap.size,0,none⟩) 12 12,m:=ms,w:=.slice (some ⟨W7.heap.size,0,none⟩) 25 25 }:=by
 have l5:=hH.lt
 have l7:=hL.lt
 have s67:=k6.1
 have k5z:Kp (w.heap.size+2) W5 Wz:=((hH.kp.trans k6).trans hL.kp).trans kz
 have k6z:Kp (w.heap.size+2) W6 Wz:=(k6.trans hL.kp).trans kz
 have hf:∀ b,V.f.ownBlock=some b→b<W5.heap.size:=fun b e=>(hA.of.lt b e).2
 have up:∀ {sz:Nat} {v:Value} {L:List (List Value)},cZ (Kn (w.heap.size+2) V.f) W5 sz v L→cZ (fun b=>w.heap.size+2≤b∧V.f.ownBlock≠some b∧(Value.slice (some ⟨W5.heap.size,0,none⟩) 12 12).ownBlock≠some b) Wz sz v L:=by
  intro sz v L r;refine pe (bR r (fun b hb hk=>⟨hk.1,hk.2,fun e=>?_⟩)) k5z (fun b h=>h.1);simp only [Value.ownBlock,Option.some.injEq] at e;omega
 have wide:∀ {W:World} {sz:Nat} {v:Value} {L:List (List Value)} {n:Nat},W5.heap.size≤n→cZ (fun b=>n<b) W sz v L→cZ (fun b=>w.heap.size+2≤b∧V.f.ownBlock≠some b∧(Value.slice (some ⟨W5.heap.size,0,none⟩) 12 12).ownBlock≠some b) W sz v L:=by
  intro W sz v L n hn r;refine bR r (fun b _ hk=>⟨by omega,fun e=>?_,fun e=>?_⟩)
  ·have:=hf b e;omega
  ·simp only [Value.ownBlock,Option.some.injEq] at e;omega
 refine ⟨⟨up hA.ta,up hA.li,up hA.re,up hA.sp,?_,by simp only [hH.ml,hX],fun i hi=>?_⟩,nr hA.of k5z (Ij _),?_,fun b e g=>?_⟩
 ·refine ⟨vs,by rw [hL.ml,hY],?_,fun i hi=>?_⟩
  ·have r:=aC hL.ow (qt hL.ml (Ij _)) (tT _ _ _);have e:oH vs 25 25=vs.map fun x=>[x]:=by simp [oH]
   rw [e] at r
   have rz:aM (w.heap.size+2) Wz 1 (.slice (some ⟨W7.heap.size,0,none⟩) 25 25) (vs.map fun x=>[x]):=by
    have:=aC (nr hL.ow kz (Ij _)) (qt hL.ml (Ij _)) (tT _ _ _);rw [e] at this;exact this
   refine ⟨rz.1,fun b o n c e2 _=>?_⟩;injection e2 with e3 _ _;injection e3 with e3;injection e3 with e3 _;subst e3;refine ⟨by omega,fun e=>?_,fun e=>?_⟩
   ·have:=hf _ e;omega
   ·simp only [Value.ownBlock,Option.some.injEq] at e;omega
  ·rw [hY] at hi;have r:=wide (by omega) (hL.ro i hi);exact pe r kz (fun b h=>h.1)
 ·rw [hX] at hi;exact pe (wide (Ij _) (hH.ro i hi)) k6z (fun b h=>h.1)
 ·have e:=nr hH.ow k6z (Ij _);rw [hX];have e2:=DS (X:=X) (V:={ V with h:=.slice (some ⟨W5.heap.size,0,none⟩) 12 12,m:=ms,w:=.slice (some ⟨W7.heap.size,0,none⟩) 25 25 }) hX;rw [← e2];exact e
 ·simp only [Value.ownBlock,Option.some.injEq] at g;have:=hf b e;omega
end
end Go.Proofs.YtocbhafgjepnjaaGreat
