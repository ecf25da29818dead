/- Texts of the row's proof. Conditions: none. -/
import Derived.Test.YtneailjecbfljaaGreatDoorK17
import Derived.Test.YtneailjecbfljaaGreatDoorK18
namespace Go.Proofs.YtneailjecbfljaaGreatDoor
set_option maxRecDepth 100000
set_option maxHeartbeats 8000000
section
open Go.RowKit
theorem Q49 {p:Prop} (h:p:=by
 intro x hx;rcases List.mem_cons.1 hx with rfl|hm
 ·exact hN
 ·rcases List.mem_append.1 hm with hm|hm
  ·cases e:V.f.ownBlock with
   | none=>rw [e] at hm;simp at hm
   | some c=>rw [e] at hm;simp at hm;subst hm;exact (h.of.lt _ e).1
  ·cases e:V.h.ownBlock with
   | none=>rw [e] at hm;simp at hm
   | some c=>rw [e] at hm;simp at hm;subst hm;exact (h.oh.lt _ e).1):p:=h
theorem Q109 {p:Prop} (h:p:=by
 have r:=ep (aD h hn hl);exact pi (bQ (K':=Kn N f) r (fun b hb hk=>⟨by omega,fun e=>by have:=hf b e;omega⟩)) k (fun b h=>h.1)):p:=h
theorem Q117 {p:Prop} (h:p:=by
 simp only [List.getD,I7 h2,I7 h1,I7 hi,Ip,List.getElem_zipWith]):p:=h
theorem Q123 {p:Prop} (h:p:=by
 refine It (v:=.tuple #[]) (by simp [results,Tryz.results68,go_sem]) rfl (GTo.same HG.out (hb1.alloc hz1 _) ⟨rfl,rfl,rfl⟩)):p:=h
theorem Q150 {p:Prop} (h:p:=by
 rw [if_pos hik];exact bF (h.ro i hik) (by omega) (fun b h1 h2=>keep2 b h1 (by omega))):p:=h
theorem kP {X:Wd} {V:Vs} (hl:V.m.length=X.health.length) {i:Nat} (hi:i<X.health.length):(eD X V).getD i []=uD (V.m.getD i undef) (X.health.getD i Ht.zero):=by
 unfold eD;have h1:i<V.m.length:=by omega
 have h2:i<(List.zipWith uD V.m X.health).length:=by simp;omega
 exact Q117
theorem Bh {X:Wd} {V:Vs} (hl:V.m.length=X.health.length) {i:Nat} (hi:i<X.health.length) (m:Value) (x:Ht):eD { X with health:=X.health.set i x } { V with m:=V.m.set i m }=(eD X V).set i (uD m x):=by
 unfold eD;simp only;apply List.ext_getElem?;intro j;have h1:i<V.m.length:=by omega
 rw [List.getElem?_zipWith,List.getElem?_set,List.getElem?_set,List.getElem?_set,List.getElem?_zipWith];by_cases e:i=j
 ·subst e;simp [h1,hi];omega
 ·simp [e]
theorem set4 {c:List Value} (h:c.length=4) (a b d e:Value):(((c.set 0 a).set 1 b).set 2 d).set 3 e=[a,b,d,e]:=by
 match c,h with
 | [_,_,_,_],_=>rfl
theorem sF {L:List (List Value)} (hl:∀ c∈L,c.length=4) {i:Nat} (hi:i<L.length) (a b d e:Value):(((L.flatten.set (i*4) a).set (i*4+1) b).set (i*4+2) d).set (i*4+3) e=(L.set i [a,b,d,e]).flatten:=by
 have hL:(L.getD i []).length=4:=hl _ (by simp [List.getD,hi])
 have k:∀ (c:List Value),c.length=4→∀ x∈L.set i c,x.length=4:=fun c hc x hx=>by rcases List.mem_or_eq_of_mem_set hx with g|rfl;exact hl _ g;exact hc
 have g:∀ (c:List Value),(L.set i c).getD i []=c:=fun c=>by simp [List.getD,hi]
 have e0:=fP a (j:=0) (by omega) hl hi;rw [Nat.add_zero] at e0;rw [e0,fP b (by omega) (k _ (by simpa using hL)) (by simpa using hi),g,List.set_set,fP d (by omega) (k _ (by simpa using hL)) (by simpa using hi),g,List.set_set,fP e (by omega) (k _ (by simpa using hL)) (by simpa using hi),g,List.set_set,set4 hL]
theorem yN {B p:Nat} {w:World} {X:Wd} {O:List Out} {S:List Nat} {V:Vs} {vo:Value} (h:G B p w X O S V vo) {g n c:Nat} (hv:V.h=.slice (some ⟨g,0,none⟩) n c) (i:Nat) (hi:i<X.health.length) (x:Ht) (m:Value) (hm:dd (NI B S) w 1 m (cG x.marks)) :
  G B p ((((w.setCell ⟨g,i*4,none⟩ m).setCell ⟨g,i*4+1,none⟩ (.bool x.out)).setCell ⟨g,i*4+2,none⟩ (.int .i64 x.until_)).setCell ⟨g,i*4+3,none⟩ (.int .i64 x.times)) { X with health:=X.health.set i x } O S { V with m:=V.m.set i m } vo∧
  Fr S w ((((w.setCell ⟨g,i*4,none⟩ m).setCell ⟨g,i*4+1,none⟩ (.bool x.out)).setCell ⟨g,i*4+2,none⟩ (.int .i64 x.until_)).setCell ⟨g,i*4+3,none⟩ (.int .i64 x.times)):=by
 have hg:V.h.ownBlock=some g:=by rw [hv];rfl
 obtain ⟨w',hw'⟩:∃ w',w'=((((w.setCell ⟨g,i*4,none⟩ m).setCell ⟨g,i*4+1,none⟩ (.bool x.out)).setCell ⟨g,i*4+2,none⟩ (.int .i64 x.until_)).setCell ⟨g,i*4+3,none⟩ (.int .i64 x.times)):=⟨_,rfl⟩
 have keep:∀ b,b≠g→w'.heap[b]?=w.heap[b]?:=fun b hb=>by
  rw [hw',Hy _ _ _ _ hb,Hy _ _ _ _ hb,Hy _ _ _ _ hb,Hy _ _ _ _ hb]
 have hz:w'.heap.size=w.heap.size:=by rw [hw'];simp
 have hgp:=(h.sh g hg).2.1
 have hgS:=(h.sh g hg).1
 have hml:=h.ro.ml
 have hoh:w'.ownsRow B 148 4 V.h X.health.length (((eD X V).set i (uD m x)).flatten):=by
  have e:=h.oh;rw [hv] at e ⊢
  have hn:n=X.health.length:=by
   obtain ⟨a',c',e',_⟩:=aC e;injection e'
  rw [hn] at e ⊢;have e4:=(((e.stored (i*4) m).1.stored (i*4+1) (.bool x.out)).1.stored (i*4+2) (.int .i64 x.until_)).1.stored (i*4+3) (.int .i64 x.times);rw [sF (mw X V) (by rw [ej hml];exact hi)] at e4;rw [hw'];exact e4.1
 rw [← hw']
 have r:=dE h.ro (w':=w') (by omega) (fun b _ hb=>keep b (fun e=>hb.1 (by rw [e];exact hgS)))
 refine ⟨⟨(keep p (fun e=>hgp e.symm)).trans h.bk,⟨r.ta,r.li,r.re,r.sp,r.wh,by simpa using hml,fun j hj=>?_⟩,aX h.of (fun b e=>keep b (fun e'=>(h.sh g hg).2.2 (by rw [← e'];exact e))),?_,aX h.oo (fun b e=>keep b (fun e'=>(h.so b e).2.2.2 (by rw [e'];exact hg))),h.pB,h.sp,h.sB,fun x hx=>by rw [hz];exact h.sl x hx,h.sf,h.sh,h.so⟩,⟨?_,?_,?_,by omega,fun b _ hb=>keep b (fun e=>hb (by rw [e];exact hgS))⟩⟩
 ·simp only [Ic] at hj;have hj':j<V.m.length:=by omega
  by_cases e:j=i
  ·subst e;simp only [List.getD,List.getElem?_set_self hj',List.getElem?_set_self hj,Ip];exact bF hm (by omega) (fun b _ hb=>keep b (fun e=>hb.1 (by rw [e];exact hgS)))
  ·have e':¬ i=j:=fun q=>e q.symm;simp only [List.getD,List.getElem?_set_ne e'];exact r.mr j hj
 ·show World.ownsRow _ _ _ _ V.h (X.health.set i x).length (eD { X with health:=X.health.set i x } { V with m:=V.m.set i m }).flatten
  rw [Bh hml hi,Ic];exact hoh
 ·rw [hw']
  rfl
 ·rw [hw']
  rfl
 ·rw [hw']
  rfl
def qn (H:List Ht) (b:Int):Bool:=(H.getD b.toNat Ht.zero).out
def wZ (L:List Lf):Nat:=L.countP fun x=>x.state == 2
def xW (L:List Lf) (H:List Ht):Nat:=L.countP fun x=>x.state == 2 && qn H x.backend
theorem BK {L:List Lf} {k:Nat} (hk:k<L.length):wZ (L.take (k+1))=wZ (L.take k)+if (L.getD k Lf.zero).state == 2 then 1 else 0:=by
 unfold wZ;exact Q91
theorem Ax {L:List Lf} {H:List Ht} {k:Nat} (hk:k<L.length):xW (L.take (k+1)) H=xW (L.take k) H+if (L.getD k Lf.zero).state == 2 && qn H (L.getD k Lf.zero).backend then 1 else 0:=by
 unfold xW;exact Q91
theorem Fs (L:List Lf) (H:List Ht):xW L H≤wZ L:=List.countP_mono_left (fun x _ h=>by simp at h;simp [h.1])
theorem Gz (L:List Lf):wZ L≤L.length:=List.countP_le_length
def BI (X:Wd):Bool:=decide (((xW X.lives X.health:Int)+1)*100≤X.cf.most*(wZ X.lives:Int))
def iW (c:Cf) (h:Ht) (failed:Bool) (now:Int) (may:Bool):Ht:=
 if h.out=false∧may=true∧c.wf≤iX (gz h.marks failed c.ww) then ⟨[],true,now+mD c.wh h.times,min (h.times+1) 10⟩ else { h with marks:=gz h.marks failed c.ww }
def bU (X:Wd) (b:Nat) (failed:Bool):Wd:={ X with health:=X.health.set b (iW X.cf (X.health.getD b Ht.zero) failed X.now (BI X && gU X.lives b == 2)) }
theorem yM (c:Cf) (h:Ht) (failed:Bool) (now:Int) (may:Bool) (h0:ge c.ww c.wf c.wh h.marks.length h.out h.until_ h.times now 0) :
  ∃ came,zQ c.ww c.wf c.wh h.marks h.out h.until_ h.times failed now may (iW c h failed now may).marks (iW c h failed now may).out (iW c h failed now may).until_ (iW c h failed now may).times came 0:=by
 unfold iW
 by_cases hc:h.out=false∧may=true∧c.wf≤iX (gz h.marks failed c.ww)
 ·rw [if_pos hc];exact ⟨true,h0,Or.inr (Or.inl ⟨rfl,hc.1,hc.2.1,hc.2.2,rfl,rfl,rfl,rfl,rfl⟩)⟩
 ·rw [if_neg hc];refine ⟨false,h0,Or.inr (Or.inr ⟨rfl,?_,rfl,rfl,rfl,rfl,rfl⟩)⟩
  cases ho:h.out with
  | true=>exact Or.inl rfl
  | false=>
   cases may with
   | false=>exact Or.inr (Or.inl ⟨rfl,rfl⟩)
   | true=>exact Or.inr (Or.inr ⟨rfl,rfl,by simp [ho] at hc;omega⟩)
theorem tF (o a m:Int) (w:World) (h1:0≤o) (h2:o≤a) (h3:a≤12) (h4:0≤m) (h5:m≤100):Calls Tryz.prog 125 #[.int .i64 o,.int .i64 a,.int .i64 m] w fun e w'=>e=.returned (.tuple #[.bool (decide ((o+1)*100≤m*a)),.int .i64 0])∧Below w.heap.size w w':=by
 obtain ⟨y,hy⟩:∃ y,y=m*a:=⟨_,rfl⟩
 have b1:0≤y:=by rw [hy];exact Int.mul_nonneg h4 (by omega)
 have b2:y≤1200:=by rw [hy];exact Int.le_trans (Int.mul_le_mul h5 h3 (by omega) (by omega)) (by omega)
 have ew:IntKind.i64.wrap (m*a)=y:=by rw [← hy,IntKind.wrap_i64];omega
 rw [← hy];clear hy;by_cases hd:(o+1)*100≤y
 ·rw [decide_eq_true hd];go_enter Tryz.func125,Tryz.ntmps125;go_wp2
  all_goals first|(refine It (v:=.tuple #[.bool true,.int .i64 0]) ?_ rfl ?_;(focus (first|(simp [results,Tryz.results125,go_sem];done)|(simp [results,Tryz.results125,go_sem, *];done)));exact ⟨rfl,Zb⟩)|exact Zx
 ·rw [decide_eq_false hd];have hd':y<(o+1)*100:=by omega
  go_enter Tryz.func125,Tryz.ntmps125;go_wp2
  all_goals first|(refine It (v:=.tuple #[.bool false,.int .i64 0]) ?_ rfl ?_;(focus (first|(simp [results,Tryz.results125,go_sem];done)|(simp [results,Tryz.results125,go_sem, *];done)));exact ⟨rfl,Zb⟩)|exact Zx
def jX (L:List Lf) (b:Int):List Lf:=match L.findIdx? (cE b) with
 | some i=>L.set i (L.getD i Lf.zero).done
 | none=>L
def bZ (X:Wd) (b:Int):Wd×List Out:=match dD X.lives b with
 | some x=>if x.state=3∧iV X.tab b X.tab.length=[] then ({ X with lives:=jX X.lives b },[⟨9,0,0,b,x.request,0,0⟩]) else (X,[])
 | none=>(X,[])
theorem wF {L:List Lf} {b:Int} {i:Nat} (h:aQ (cE b) L=i):jX L b=L.set i (L.getD i Lf.zero).done:=by
 unfold aQ at h;unfold jX
 cases e:L.findIdx? (cE b) with
 | none=>rw [e] at h;simp at h
 | some j=>rw [e] at h;obtain rfl:j=i:=(by have h':(j:Int)=i:=h;omega);rfl
theorem uy {L:List Lf} {R:List Rq} {b:Int} {x:Lf} (hm:bG L R) (h:dD L b=some x) (hs:x.state=3):Hl L R b (jX L b) R 0:=by
 rcases bJ (cE b) L Lf.zero with ⟨h1,_⟩|⟨i,hi,h1,_⟩
 ·rw [(fH L b).1 h1] at h
  cases h
 ·rw [(fH L b).2 i h1 hi] at h;injection h with h;exact Or.inr (Or.inr (Or.inr ⟨hm,⟨i,hi,h1,by rw [h];exact hs,wF h1⟩,rfl,rfl⟩))
theorem GTo.same {B p:Nat} {w w':World} {X:Wd} {O:List Out} {S:List Nat} {V:Vs} {vo:Value} (h:G B p w X O S V vo) (hb:Below w.heap.size w w') {Q:Vs→Prop} (hQ:Q V) {r:Value}:GTo B p w S X O Q r (.returned r) w':=
 ⟨S,V,vo,rfl,dz h hb,hQ,Fr.of_below hb,fun _ hx=>Or.inl hx⟩
def Hk (V V':Vs):Prop:=V'.f=V.f∧V'.h=V.h∧V'.m=V.m
theorem kf {B p:Nat} {w:World} {X:Wd} {O:List Out} {S:List Nat} {V:Vs} {vo:Value} (h:G B p w X O S V vo) (b:Int) (hm:bG X.lives X.reqs) (ht:dL X.tab) (hO:O.length≤1000000) :
  Calls Tryz.prog 68 #[.pointer (some ⟨p,0,none⟩),.int .i64 b] w (GTo B p w S (bZ X b).1 (O++(bZ X b).2) (Hk V) (.tuple #[])):=by
 have hgr:=h.gr
 have x19:=hgr.c 19 (v:=V.l) rfl
 have x20:=hgr.c 20 (v:=V.r) rfl
 have x17:=hgr.c 17 (v:=V.t) rfl
 have xf:∀ n,w.frozen? ⟨p,n,none⟩=false:=fun n=>ap h.bk n
 obtain ⟨al,cl,el,_⟩:=aq hgr.1.li.1
 obtain ⟨ar,cr,er,_⟩:=aq hgr.1.re.1
 obtain ⟨at_,ct,et,_⟩:=aq hgr.1.ta.1
 rw [el] at x19
 rw [er] at x20
 rw [et] at x17
 have HL:=Hp hgr.1.li.1
 have HR:=Hp hgr.1.re.1
 have HT:=Hp hgr.1.ta.1
 rw [el] at HL
 rw [er] at HR
 rw [et] at HT
 obtain ⟨x,code,ha⟩:=oD X.lives X.reqs b
 have HA:=Hp ha
 have hs:=xp hm ha
 have hp:=h.plt
 have HG:=Hp h
 have HM:=Hp hm
 have HTm:=Hp ht
 rcases hs with ⟨rfl,hs,rfl⟩|⟨rfl,hs⟩
 ·have e:bZ X b=(X,[]):=by unfold bZ;rw [hs]
  rw [e];simp only [List.append_nil];clear h hm ha hs e el er et hgr ht;go_enter Tryz.func68,Tryz.ntmps68;go_wp2_with (go_at_call 71;refine (iF _ _ X.lives X.reqs b ⟨0,0,0,0,0,0⟩ 8 _ HL.out HR.out HA.out).mono ?_;rintro e w1 ⟨he,hb1⟩;simp only [Lf.agg] at he;subst he;obtain ⟨hc1,hf1⟩:=aV hb1;have hz1:=hb1.size;have hp1:p<w1.heap.size:=(by omega));exact Q123
 ·obtain ⟨x0,x1,x2,x3,x4,x5⟩:=x;by_cases hst:x1=3;rotate_left
  ·have e:bZ X b=(X,[]):=by unfold bZ;rw [hs];simp only;rw [if_neg (fun h=>hst h.1)]
   rw [e];simp only [List.append_nil];have e1:(x1 != 3)=true:=by simpa using hst
   clear h hm ha hs e el er et hgr ht hst;go_enter Tryz.func68,Tryz.ntmps68;go_wp2_with (go_at_call 71;refine (iF _ _ X.lives X.reqs b ⟨x0,x1,x2,x3,x4,x5⟩ 0 _ HL.out HR.out HA.out).mono ?_;rintro e w1 ⟨he,hb1⟩;simp only [Lf.agg] at he;subst he;obtain ⟨hc1,hf1⟩:=aV hb1;have hz1:=hb1.size;have hp1:p<w1.heap.size:=(by omega));exact Q123
  ·subst hst;have hfn:=uy hm hs rfl;obtain ⟨OL,hOL⟩:∃ OL,OL=iV X.tab b X.tab.length:=⟨_,rfl⟩;by_cases hol:OL=[];rotate_left
   ·have e:bZ X b=(X,[]):=by unfold bZ;rw [hs];simp only;rw [if_neg (fun h=>hol (hOL.trans h.2))]
    rw [e];simp only [List.append_nil]
    have e1:(0:Int)<(OL.length:Int):=by have:=List.length_pos_iff.2 hol;omega
    have HOL:=Hp hOL;clear h hm ha hs e el er et hgr ht hol hOL hfn;go_enter Tryz.func68,Tryz.ntmps68;go_wp2_with (first|(go_at_call 71;refine (iF _ _ X.lives X.reqs b ⟨x0,3,x2,x3,x4,x5⟩ 0 _ HL.out HR.out HA.out).mono ?_;rintro e w1 ⟨he,hb1⟩;simp only [Lf.agg] at he;subst he;obtain ⟨hc1,hf1⟩:=aV hb1;have hz1:=hb1.size;have hp1:p<w1.heap.size:=(by omega))|(go_at_call 76;refine (oe X.tab b _ _ (ai (au HT.out hb1) _) HTm.out).mono ?_;rw [← HOL.out];rintro e w2 ⟨v2,rfl,r2,hb2⟩;obtain ⟨a2,c2,rfl,_⟩:=aq r2;obtain ⟨hc2,hf2⟩:=aV hb2;clear r2));refine It (v:=.tuple #[]) (by simp [results,Tryz.results68,go_sem]) rfl (GTo.same HG.out ((hb1.alloc hz1 _).trans (hb2.mono (by simp;omega))) ⟨rfl,rfl,rfl⟩)
   ·subst hol
    have e:bZ X b=({ X with lives:=jX X.lives b },[⟨9,0,0,b,x5,0,0⟩]):=by unfold bZ;rw [hs];simp only;rw [if_pos ⟨trivial,hOL.symm⟩]
    rw [e];have HOL:=Hp hOL;have HFn:=Hp hfn;clear h hm ha hs e el er et hgr ht hOL hfn;go_enter Tryz.func68,Tryz.ntmps68;go_wp2_with (first|(go_at_call 71;refine (iF _ _ X.lives X.reqs b ⟨x0,3,x2,x3,x4,x5⟩ 0 _ HL.out HR.out HA.out).mono ?_;rintro e w1 ⟨he,hb1⟩;simp only [Lf.agg] at he;subst he;obtain ⟨hc1,hf1⟩:=aV hb1;have hz1:=hb1.size;have hp1:p<w1.heap.size:=(by omega))|(go_at_call 76;refine (oe X.tab b _ _ (ai (au HT.out hb1) _) HTm.out).mono ?_;rw [← HOL.out];rintro e w2 ⟨v2,rfl,r2,hb2⟩;obtain ⟨a2,c2,rfl,_⟩:=aq r2;obtain ⟨hc2,hf2⟩:=aV hb2;clear r2));have bw2:Below w.heap.size w w2:=(hb1.alloc hz1 _).trans (hb2.mono (by simp;omega));have y5:w2.cell? ⟨w1.heap.size,5,none⟩=some (.int .i64 x5):=ah hb2 (by go_simp) (by simp);have hz2:=hb2.size;simp at hz2;refine (As _ _ X.lives X.reqs b (jX X.lives b) X.reqs 0 _ (au HL.out bw2) (au HR.out bw2) HFn.out).mono ?_;rintro e w3 ⟨v1,v2,rfl,R1,R2,hb3⟩;obtain ⟨a3,c3,rfl,_⟩:=aq R1.1;obtain ⟨a4,c4,rfl,_⟩:=aq R2.1;have bw3:Below w.heap.size w w3:=bw2.trans (hb3.mono bw2.size);have y5:=ah hb3 y5 (by omega);have x19:=ah bw3 x19 hp;have x20:=ah bw3 x20 hp;have xf:∀ n,w3.frozen? ⟨p,n,none⟩=false:=fun n=>(bw3.frozen (p:=⟨p,n,none⟩) hp).trans (xf n);have hz3:=hb3.size;have n1:¬ w1.heap.size=p:=by omega
    have n2:¬ p=w1.heap.size:=by omega
    have G3:=dz HG.out bw3;have k1:=dl HG.out R1 bw2.size;have k2:=dl HG.out R2 bw2.size;have G4:=iP G3 19 (.slice a3 (jX X.lives b).length c3) { X with lives:=jX X.lives b } { V with l:=.slice a3 (jX X.lives b).length c3 } rfl rfl rfl rfl rfl rfl { G3.ro with li:=k1 }
    have k3:dd (NI B S) (w3.setCell ⟨p,19,none⟩ (.slice a3 (jX X.lives b).length c3)) 5 (.slice a4 X.reqs.length c4) (X.reqs.map Rq.cells):=
     bF k2 (by simp) (fun b' _ hb'=>Hy _ _ _ _ (fun e=>hb'.1 (by have e':b'=p:=e;rw [e'];exact G3.sp)))
    have G5:=iP G4 20 (.slice a4 X.reqs.length c4) { X with lives:=jX X.lives b } { V with l:=.slice a3 (jX X.lives b).length c3,r:=.slice a4 X.reqs.length c4 } rfl rfl rfl rfl rfl rfl { G4.ro with re:=k3 };have H5:=Hp G5;have F4:Fr S w _:=(Fr.of_below bw3).trans ((cZ G3.sp 19 (.slice a3 (jX X.lives b).length c3)).trans (cZ G3.sp 20 (.slice a4 X.reqs.length c4)) (fun _ hx=>Or.inl hx)) (fun _ hx=>Or.inl hx);have HF4:=Hp F4;clear R1 R2 hb3 G3 k1 k2 k3 G4 G5 F4 bw2 hb2 hb1;go_wp2_with fail;refine (dm H5.out ⟨9,0,0,b,x5,0,0⟩ hO).mono ?_;rintro e w5 ⟨S5,V5,vo5,rfl,G6,rfl,F5,hS5⟩;have HG6:=Hp G6;have HF5:=Hp (HF4.out.trans F5 (fun _ hx=>Or.inl hx));have HS5:=Hp hS5;have hz4:=HF4.out.size;clear G6 F5 hS5;go_wp2_with fail;refine It (v:=.tuple #[]) (by simp [results,Tryz.results68,go_sem]) rfl ⟨S5,_,vo5,rfl,HG6.out,⟨rfl,rfl,rfl⟩,HF5.out,fun x hx=>?_⟩;rcases HS5.out x hx with g|g
    ·exact Or.inl g
    ·exact Or.inr (by omega)
end
end Go.Proofs.YtneailjecbfljaaGreatDoor
