/- Texts of the row's proof. Conditions: none. -/
import Derived.Test.YtfliffgmeobclaaGreatK17
import Derived.Test.YtfliffgmeobclaaGreatK18
namespace Go.Proofs.YtfliffgmeobclaaGreat
set_option maxRecDepth 100000
set_option maxHeartbeats 8000000
section
open Go.RowKit
theorem Q50 {p:Prop} (h:p:=by
 intro x hx;rcases List.mem_cons.1 hx with rfl|hm
 ·exact hN
 ·rcases List.mem_append.1 hm with hm|hm
  ·cases e:V.f.ownBlock with
   | none=>rw [e] at hm;simp at hm
   | some c=>rw [e] at hm;simp at hm;subst hm;exact (h.of.lt _ e).1
  ·cases e:V.h.ownBlock with
   | none=>rw [e] at hm;simp at hm
   | some c=>rw [e] at hm;simp at hm;subst hm;exact (h.oh.lt _ e).1):p:=h
theorem Q109 {p:Prop} (h:p:=by
 have r:=eu (aD h hn hl);exact pl (bQ (K':=Kn N f) r (fun b hb hk=>⟨by omega,fun e=>by have:=hf b e;omega⟩)) k (fun b h=>h.1)):p:=h
theorem Q117 {p:Prop} (h:p:=by
 simp only [List.getD,Ib h2,Ib h1,Ib hi,Iu,List.getElem_zipWith]):p:=h
theorem Q123 {p:Prop} (h:p:=by
 refine Ix (v:=.tuple #[]) (by simp [results,Tryz.results67,go_sem]) rfl (GTo.same HG.out (hb1.alloc hz1 _) ⟨rfl,rfl,rfl⟩)):p:=h
theorem Q150 {p:Prop} (h:p:=by
 rw [if_pos hik];exact bG (h.ro i hik) (by omega) (fun b h1 h2=>keep2 b h1 (by omega))):p:=h
theorem iu {X:Wd} {V:Vs} (hl:V.m.length=X.health.length) {i:Nat} (hi:i<X.health.length):(eE X V).getD i []=sC (V.m.getD i undef) (X.health.getD i Ht.zero):=by
 unfold eE;have h1:i<V.m.length:=by omega
 have h2:i<(List.zipWith sC V.m X.health).length:=by simp;omega
 exact Q117
theorem Bj {X:Wd} {V:Vs} (hl:V.m.length=X.health.length) {i:Nat} (hi:i<X.health.length) (m:Value) (x:Ht):eE { X with health:=X.health.set i x } { V with m:=V.m.set i m }=(eE X V).set i (sC m x):=by
 unfold eE;simp only;apply List.ext_getElem?;intro j;have h1:i<V.m.length:=by omega
 rw [List.getElem?_zipWith,List.getElem?_set,List.getElem?_set,List.getElem?_set,List.getElem?_zipWith];by_cases e:i=j
 ·subst e;simp [h1,hi];omega
 ·simp [e]
theorem set4 {c:List Value} (h:c.length=4) (a b d e:Value):(((c.set 0 a).set 1 b).set 2 d).set 3 e=[a,b,d,e]:=by
 match c,h with
 | [_,_,_,_],_=>rfl
theorem sG {L:List (List Value)} (hl:∀ c∈L,c.length=4) {i:Nat} (hi:i<L.length) (a b d e:Value):(((L.flatten.set (i*4) a).set (i*4+1) b).set (i*4+2) d).set (i*4+3) e=(L.set i [a,b,d,e]).flatten:=by
 have hL:(L.getD i []).length=4:=hl _ (by simp [List.getD,hi])
 have k:∀ (c:List Value),c.length=4→∀ x∈L.set i c,x.length=4:=fun c hc x hx=>by rcases List.mem_or_eq_of_mem_set hx with g|rfl;exact hl _ g;exact hc
 have g:∀ (c:List Value),(L.set i c).getD i []=c:=fun c=>by simp [List.getD,hi]
 have e0:=fP a (j:=0) (by omega) hl hi;rw [Nat.add_zero] at e0;rw [e0,fP b (by omega) (k _ (by simpa using hL)) (by simpa using hi),g,List.set_set,fP d (by omega) (k _ (by simpa using hL)) (by simpa using hi),g,List.set_set,fP e (by omega) (k _ (by simpa using hL)) (by simpa using hi),g,List.set_set,set4 hL]
theorem yO {B p:Nat} {w:World} {X:Wd} {O:List Out} {S:List Nat} {V:Vs} {vo:Value} (h:G B p w X O S V vo) {g n c:Nat} (hv:V.h=.slice (some ⟨g,0,none⟩) n c) (i:Nat) (hi:i<X.health.length) (x:Ht) (m:Value) (hm:dd (NI B S) w 1 m (cI x.marks)) :
  G B p ((((w.setCell ⟨g,i*4,none⟩ m).setCell ⟨g,i*4+1,none⟩ (.bool x.out)).setCell ⟨g,i*4+2,none⟩ (.int .i64 x.until_)).setCell ⟨g,i*4+3,none⟩ (.int .i64 x.times)) { X with health:=X.health.set i x } O S { V with m:=V.m.set i m } vo∧
  Fr S w ((((w.setCell ⟨g,i*4,none⟩ m).setCell ⟨g,i*4+1,none⟩ (.bool x.out)).setCell ⟨g,i*4+2,none⟩ (.int .i64 x.until_)).setCell ⟨g,i*4+3,none⟩ (.int .i64 x.times)):=by
 have hg:V.h.ownBlock=some g:=by rw [hv];rfl
 obtain ⟨w',hw'⟩:∃ w',w'=((((w.setCell ⟨g,i*4,none⟩ m).setCell ⟨g,i*4+1,none⟩ (.bool x.out)).setCell ⟨g,i*4+2,none⟩ (.int .i64 x.until_)).setCell ⟨g,i*4+3,none⟩ (.int .i64 x.times)):=⟨_,rfl⟩
 have keep:∀ b,b≠g→w'.heap[b]?=w.heap[b]?:=fun b hb=>by
  rw [hw',I2 _ _ _ _ hb,I2 _ _ _ _ hb,I2 _ _ _ _ hb,I2 _ _ _ _ hb]
 have hz:w'.heap.size=w.heap.size:=by rw [hw'];simp
 have hgp:=(h.sh g hg).2.1
 have hgS:=(h.sh g hg).1
 have hml:=h.ro.ml
 have hoh:w'.ownsRow B 129 4 V.h X.health.length (((eE X V).set i (sC m x)).flatten):=by
  have e:=h.oh;rw [hv] at e ⊢
  have hn:n=X.health.length:=by
   obtain ⟨a',c',e',_⟩:=aC e;injection e'
  rw [hn] at e ⊢;have e4:=(((e.stored (i*4) m).1.stored (i*4+1) (.bool x.out)).1.stored (i*4+2) (.int .i64 x.until_)).1.stored (i*4+3) (.int .i64 x.times);rw [sG (mx X V) (by rw [dF hml];exact hi)] at e4;rw [hw'];exact e4.1
 rw [← hw']
 have r:=dG h.ro (w':=w') (by omega) (fun b _ hb=>keep b (fun e=>hb.1 (by rw [e];exact hgS)))
 refine ⟨⟨(keep p (fun e=>hgp e.symm)).trans h.bk,⟨r.ta,r.li,r.re,r.sp,r.wh,by simpa using hml,fun j hj=>?_⟩,aX h.of (fun b e=>keep b (fun e'=>(h.sh g hg).2.2 (by rw [← e'];exact e))),?_,aX h.oo (fun b e=>keep b (fun e'=>(h.so b e).2.2.2 (by rw [e'];exact hg))),h.pB,h.sp,h.sB,fun x hx=>by rw [hz];exact h.sl x hx,h.sf,h.sh,h.so⟩,⟨?_,?_,?_,by omega,fun b _ hb=>keep b (fun e=>hb (by rw [e];exact hgS))⟩⟩
 ·simp only [Ig] at hj;have hj':j<V.m.length:=by omega
  by_cases e:j=i
  ·subst e;simp only [List.getD,List.getElem?_set_self hj',List.getElem?_set_self hj,Iu];exact bG hm (by omega) (fun b _ hb=>keep b (fun e=>hb.1 (by rw [e];exact hgS)))
  ·have e':¬ i=j:=fun q=>e q.symm;simp only [List.getD,List.getElem?_set_ne e'];exact r.mr j hj
 ·show World.ownsRow _ _ _ _ V.h (X.health.set i x).length (eE { X with health:=X.health.set i x } { V with m:=V.m.set i m }).flatten
  rw [Bj hml hi,Ig];exact hoh
 ·rw [hw']
  rfl
 ·rw [hw']
  rfl
 ·rw [hw']
  rfl
def qo (H:List Ht) (b:Int):Bool:=(H.getD b.toNat Ht.zero).out
def wZ (L:List Lf):Nat:=L.countP fun x=>x.state == 2
def xX (L:List Lf) (H:List Ht):Nat:=L.countP fun x=>x.state == 2 && qo H x.backend
theorem BM {L:List Lf} {k:Nat} (hk:k<L.length):wZ (L.take (k+1))=wZ (L.take k)+if (L.getD k Lf.zero).state == 2 then 1 else 0:=by
 unfold wZ;exact Q92
theorem Az {L:List Lf} {H:List Ht} {k:Nat} (hk:k<L.length):xX (L.take (k+1)) H=xX (L.take k) H+if (L.getD k Lf.zero).state == 2 && qo H (L.getD k Lf.zero).backend then 1 else 0:=by
 unfold xX;exact Q92
theorem Fw (L:List Lf) (H:List Ht):xX L H≤wZ L:=List.countP_mono_left (fun x _ h=>by simp at h;simp [h.1])
theorem GE (L:List Lf):wZ L≤L.length:=List.countP_le_length
def BK (X:Wd):Bool:=decide (((xX X.lives X.health:Int)+1)*100≤X.cf.most*(wZ X.lives:Int))
def iY (c:Cf) (h:Ht) (failed:Bool) (now:Int) (may:Bool):Ht:=
 if h.out=false∧may=true∧c.wf≤iZ (gz h.marks failed c.ww) then ⟨[],true,now+mF c.wh h.times,min (h.times+1) 10⟩ else { h with marks:=gz h.marks failed c.ww }
def bU (X:Wd) (b:Nat) (failed:Bool):Wd:={ X with health:=X.health.set b (iY X.cf (X.health.getD b Ht.zero) failed X.now (BK X && gL X.lives b == 2)) }
theorem yN (c:Cf) (h:Ht) (failed:Bool) (now:Int) (may:Bool) (h0:ge c.ww c.wf c.wh h.marks.length h.out h.until_ h.times now 0) :
  ∃ came,zR c.ww c.wf c.wh h.marks h.out h.until_ h.times failed now may (iY c h failed now may).marks (iY c h failed now may).out (iY c h failed now may).until_ (iY c h failed now may).times came 0:=by
 unfold iY
 by_cases hc:h.out=false∧may=true∧c.wf≤iZ (gz h.marks failed c.ww)
 ·rw [if_pos hc];exact ⟨true,h0,Or.inr (Or.inl ⟨rfl,hc.1,hc.2.1,hc.2.2,rfl,rfl,rfl,rfl,rfl⟩)⟩
 ·rw [if_neg hc];refine ⟨false,h0,Or.inr (Or.inr ⟨rfl,?_,rfl,rfl,rfl,rfl,rfl⟩)⟩
  cases ho:h.out with
  | true=>exact Or.inl rfl
  | false=>
   cases may with
   | false=>exact Or.inr (Or.inl ⟨rfl,rfl⟩)
   | true=>exact Or.inr (Or.inr ⟨rfl,rfl,by simp [ho] at hc;omega⟩)
theorem tG (o a m:Int) (w:World) (h1:0≤o) (h2:o≤a) (h3:a≤12) (h4:0≤m) (h5:m≤100):Calls Tryz.prog 124 #[.int .i64 o,.int .i64 a,.int .i64 m] w fun e w'=>e=.returned (.tuple #[.bool (decide ((o+1)*100≤m*a)),.int .i64 0])∧Below w.heap.size w w':=by
 obtain ⟨y,hy⟩:∃ y,y=m*a:=⟨_,rfl⟩
 have b1:0≤y:=by rw [hy];exact Int.mul_nonneg h4 (by omega)
 have b2:y≤1200:=by rw [hy];exact Int.le_trans (Int.mul_le_mul h5 h3 (by omega) (by omega)) (by omega)
 have ew:IntKind.i64.wrap (m*a)=y:=by rw [← hy,IntKind.wrap_i64];omega
 rw [← hy];clear hy;by_cases hd:(o+1)*100≤y
 ·rw [decide_eq_true hd];go_enter Tryz.func124,Tryz.ntmps124;go_wp2
  all_goals first|(refine Ix (v:=.tuple #[.bool true,.int .i64 0]) ?_ rfl ?_;(focus (first|(simp [results,Tryz.results124,go_sem];done)|(simp [results,Tryz.results124,go_sem, *];done)));exact ⟨rfl,Zb⟩)|exact Zx
 ·rw [decide_eq_false hd];have hd':y<(o+1)*100:=by omega
  go_enter Tryz.func124,Tryz.ntmps124;go_wp2
  all_goals first|(refine Ix (v:=.tuple #[.bool false,.int .i64 0]) ?_ rfl ?_;(focus (first|(simp [results,Tryz.results124,go_sem];done)|(simp [results,Tryz.results124,go_sem, *];done)));exact ⟨rfl,Zb⟩)|exact Zx
def jY (L:List Lf) (b:Int):List Lf:=match L.findIdx? (cE b) with
 | some i=>L.set i (L.getD i Lf.zero).done
 | none=>L
def bZ (X:Wd) (b:Int):Wd×List Out:=match dt X.lives b with
 | some x=>if x.state=3∧iX X.tab b X.tab.length=[] then ({ X with lives:=jY X.lives b },[⟨9,0,0,b,x.request,0,0⟩]) else (X,[])
 | none=>(X,[])
theorem wF {L:List Lf} {b:Int} {i:Nat} (h:aQ (cE b) L=i):jY L b=L.set i (L.getD i Lf.zero).done:=by
 unfold aQ at h;unfold jY
 cases e:L.findIdx? (cE b) with
 | none=>rw [e] at h;simp at h
 | some j=>rw [e] at h;obtain rfl:j=i:=(by have h':(j:Int)=i:=h;omega);rfl
theorem uz {L:List Lf} {R:List Rq} {b:Int} {x:Lf} (hm:bF L R) (h:dt L b=some x) (hs:x.state=3):Hp L R b (jY L b) R 0:=by
 rcases bJ (cE b) L Lf.zero with ⟨h1,_⟩|⟨i,hi,h1,_⟩
 ·rw [(fH L b).1 h1] at h
  cases h
 ·rw [(fH L b).2 i h1 hi] at h;injection h with h;exact Or.inr (Or.inr (Or.inr ⟨hm,⟨i,hi,h1,by rw [h];exact hs,wF h1⟩,rfl,rfl⟩))
theorem GTo.same {B p:Nat} {w w':World} {X:Wd} {O:List Out} {S:List Nat} {V:Vs} {vo:Value} (h:G B p w X O S V vo) (hb:Below w.heap.size w w') {Q:Vs→Prop} (hQ:Q V) {r:Value}:GTo B p w S X O Q r (.returned r) w':=
 ⟨S,V,vo,rfl,dB h hb,hQ,Fr.of_below hb,fun _ hx=>Or.inl hx⟩
def Ho (V V':Vs):Prop:=V'.f=V.f∧V'.h=V.h∧V'.m=V.m
theorem kg {B p:Nat} {w:World} {X:Wd} {O:List Out} {S:List Nat} {V:Vs} {vo:Value} (h:G B p w X O S V vo) (b:Int) (hm:bF X.lives X.reqs) (ht:dN X.tab) (hO:O.length≤1000000) :
  Calls Tryz.prog 67 #[.pointer (some ⟨p,0,none⟩),.int .i64 b] w (GTo B p w S (bZ X b).1 (O++(bZ X b).2) (Ho V) (.tuple #[])):=by
 have hgr:=h.gr
 have x19:=hgr.c 19 (v:=V.l) rfl
 have x20:=hgr.c 20 (v:=V.r) rfl
 have x17:=hgr.c 17 (v:=V.t) rfl
 have xf:∀ n,w.frozen? ⟨p,n,none⟩=false:=fun n=>ap h.bk n
 obtain ⟨al,cl,el,_⟩:=aq hgr.1.li.1
 obtain ⟨ar,cr,er,_⟩:=aq hgr.1.re.1
 obtain ⟨at_,ct,et,_⟩:=aq hgr.1.ta.1
 rw [el] at x19
 rw [er] at x20
 rw [et] at x17
 have HL:=Hu hgr.1.li.1
 have HR:=Hu hgr.1.re.1
 have HT:=Hu hgr.1.ta.1
 rw [el] at HL
 rw [er] at HR
 rw [et] at HT
 obtain ⟨x,code,ha⟩:=oF X.lives X.reqs b
 have HA:=Hu ha
 have hs:=xp hm ha
 have hp:=h.plt
 have HG:=Hu h
 have HM:=Hu hm
 have HTm:=Hu ht
 rcases hs with ⟨rfl,hs,rfl⟩|⟨rfl,hs⟩
 ·have e:bZ X b=(X,[]):=by unfold bZ;rw [hs]
  rw [e];simp only [List.append_nil];clear h hm ha hs e el er et hgr ht;go_enter Tryz.func67,Tryz.ntmps67;go_wp2_with (go_at_call 70;refine (iG _ _ X.lives X.reqs b ⟨0,0,0,0,0,0⟩ 8 _ HL.out HR.out HA.out).mono ?_;rintro e w1 ⟨he,hb1⟩;simp only [Lf.agg] at he;subst he;obtain ⟨hc1,hf1⟩:=aV hb1;have hz1:=hb1.size;have hp1:p<w1.heap.size:=(by omega));exact Q123
 ·obtain ⟨x0,x1,x2,x3,x4,x5⟩:=x;by_cases hst:x1=3;rotate_left
  ·have e:bZ X b=(X,[]):=by unfold bZ;rw [hs];simp only;rw [if_neg (fun h=>hst h.1)]
   rw [e];simp only [List.append_nil];have e1:(x1 != 3)=true:=by simpa using hst
   clear h hm ha hs e el er et hgr ht hst;go_enter Tryz.func67,Tryz.ntmps67;go_wp2_with (go_at_call 70;refine (iG _ _ X.lives X.reqs b ⟨x0,x1,x2,x3,x4,x5⟩ 0 _ HL.out HR.out HA.out).mono ?_;rintro e w1 ⟨he,hb1⟩;simp only [Lf.agg] at he;subst he;obtain ⟨hc1,hf1⟩:=aV hb1;have hz1:=hb1.size;have hp1:p<w1.heap.size:=(by omega));exact Q123
  ·subst hst;have hfn:=uz hm hs rfl;obtain ⟨OL,hOL⟩:∃ OL,OL=iX X.tab b X.tab.length:=⟨_,rfl⟩;by_cases hol:OL=[];rotate_left
   ·have e:bZ X b=(X,[]):=by unfold bZ;rw [hs];simp only;rw [if_neg (fun h=>hol (hOL.trans h.2))]
    rw [e];simp only [List.append_nil]
    have e1:(0:Int)<(OL.length:Int):=by have:=List.length_pos_iff.2 hol;omega
    have HOL:=Hu hOL;clear h hm ha hs e el er et hgr ht hol hOL hfn;go_enter Tryz.func67,Tryz.ntmps67;go_wp2_with (first|(go_at_call 70;refine (iG _ _ X.lives X.reqs b ⟨x0,3,x2,x3,x4,x5⟩ 0 _ HL.out HR.out HA.out).mono ?_;rintro e w1 ⟨he,hb1⟩;simp only [Lf.agg] at he;subst he;obtain ⟨hc1,hf1⟩:=aV hb1;have hz1:=hb1.size;have hp1:p<w1.heap.size:=(by omega))|(go_at_call 75;refine (om X.tab b _ _ (ai (au HT.out hb1) _) HTm.out).mono ?_;rw [← HOL.out];rintro e w2 ⟨v2,rfl,r2,hb2⟩;obtain ⟨a2,c2,rfl,_⟩:=aq r2;obtain ⟨hc2,hf2⟩:=aV hb2;clear r2));refine Ix (v:=.tuple #[]) (by simp [results,Tryz.results67,go_sem]) rfl (GTo.same HG.out ((hb1.alloc hz1 _).trans (hb2.mono (by simp;omega))) ⟨rfl,rfl,rfl⟩)
   ·subst hol
    have e:bZ X b=({ X with lives:=jY X.lives b },[⟨9,0,0,b,x5,0,0⟩]):=by unfold bZ;rw [hs];simp only;rw [if_pos ⟨trivial,hOL.symm⟩]
    rw [e];have HOL:=Hu hOL;have HFn:=Hu hfn;clear h hm ha hs e el er et hgr ht hOL hfn;go_enter Tryz.func67,Tryz.ntmps67;go_wp2_with (first|(go_at_call 70;refine (iG _ _ X.lives X.reqs b ⟨x0,3,x2,x3,x4,x5⟩ 0 _ HL.out HR.out HA.out).mono ?_;rintro e w1 ⟨he,hb1⟩;simp only [Lf.agg] at he;subst he;obtain ⟨hc1,hf1⟩:=aV hb1;have hz1:=hb1.size;have hp1:p<w1.heap.size:=(by omega))|(go_at_call 75;refine (om X.tab b _ _ (ai (au HT.out hb1) _) HTm.out).mono ?_;rw [← HOL.out];rintro e w2 ⟨v2,rfl,r2,hb2⟩;obtain ⟨a2,c2,rfl,_⟩:=aq r2;obtain ⟨hc2,hf2⟩:=aV hb2;clear r2));have bw2:Below w.heap.size w w2:=(hb1.alloc hz1 _).trans (hb2.mono (by simp;omega));have y5:w2.cell? ⟨w1.heap.size,5,none⟩=some (.int .i64 x5):=ah hb2 (by go_simp) (by simp);have hz2:=hb2.size;simp at hz2;refine (Au _ _ X.lives X.reqs b (jY X.lives b) X.reqs 0 _ (au HL.out bw2) (au HR.out bw2) HFn.out).mono ?_;rintro e w3 ⟨v1,v2,rfl,R1,R2,hb3⟩;obtain ⟨a3,c3,rfl,_⟩:=aq R1.1;obtain ⟨a4,c4,rfl,_⟩:=aq R2.1;have bw3:Below w.heap.size w w3:=bw2.trans (hb3.mono bw2.size);have y5:=ah hb3 y5 (by omega);have x19:=ah bw3 x19 hp;have x20:=ah bw3 x20 hp;have xf:∀ n,w3.frozen? ⟨p,n,none⟩=false:=fun n=>(bw3.frozen (p:=⟨p,n,none⟩) hp).trans (xf n);have hz3:=hb3.size;have n1:¬ w1.heap.size=p:=by omega
    have n2:¬ p=w1.heap.size:=by omega
    have G3:=dB HG.out bw3;have k1:=dm HG.out R1 bw2.size;have k2:=dm HG.out R2 bw2.size;have G4:=iQ G3 19 (.slice a3 (jY X.lives b).length c3) { X with lives:=jY X.lives b } { V with l:=.slice a3 (jY X.lives b).length c3 } rfl rfl rfl rfl rfl rfl { G3.ro with li:=k1 }
    have k3:dd (NI B S) (w3.setCell ⟨p,19,none⟩ (.slice a3 (jY X.lives b).length c3)) 5 (.slice a4 X.reqs.length c4) (X.reqs.map Rq.cells):=
     bG k2 (by simp) (fun b' _ hb'=>I2 _ _ _ _ (fun e=>hb'.1 (by have e':b'=p:=e;rw [e'];exact G3.sp)))
    have G5:=iQ G4 20 (.slice a4 X.reqs.length c4) { X with lives:=jY X.lives b } { V with l:=.slice a3 (jY X.lives b).length c3,r:=.slice a4 X.reqs.length c4 } rfl rfl rfl rfl rfl rfl { G4.ro with re:=k3 };have H5:=Hu G5;have F4:Fr S w _:=(Fr.of_below bw3).trans ((cZ G3.sp 19 (.slice a3 (jY X.lives b).length c3)).trans (cZ G3.sp 20 (.slice a4 X.reqs.length c4)) (fun _ hx=>Or.inl hx)) (fun _ hx=>Or.inl hx);have HF4:=Hu F4;clear R1 R2 hb3 G3 k1 k2 k3 G4 G5 F4 bw2 hb2 hb1;go_wp2_with fail;refine (dn H5.out ⟨9,0,0,b,x5,0,0⟩ hO).mono ?_;rintro e w5 ⟨S5,V5,vo5,rfl,G6,rfl,F5,hS5⟩;have HG6:=Hu G6;have HF5:=Hu (HF4.out.trans F5 (fun _ hx=>Or.inl hx));have HS5:=Hu hS5;have hz4:=HF4.out.size;clear G6 F5 hS5;go_wp2_with fail;refine Ix (v:=.tuple #[]) (by simp [results,Tryz.results67,go_sem]) rfl ⟨S5,_,vo5,rfl,HG6.out,⟨rfl,rfl,rfl⟩,HF5.out,fun x hx=>?_⟩;rcases HS5.out x hx with g|g
    ·exact Or.inl g
    ·exact Or.inr (by omega)
structure WA (w:World) (X:Wd) (V:Vs):Prop where
 ro:nQ (fun _=>True) w X V
 fl:aI w 7 V.f (X.flows.map Fl.cells)
 he:aI w 4 V.h (eE X V)
theorem WA.below {w w':World} {X:Wd} {V:Vs} (h:WA w X V) (hb:Below w.heap.size w w'):WA w' X V:=
 ⟨dG h.ro hb.size (fun b hb' _=>hb.block b hb'),au h.fl hb,au h.he hb⟩
def Kp (N:Nat) (W W':World):Prop:=W.heap.size≤W'.heap.size∧∀ b,N≤b→b<W.heap.size→W'.heap[b]?=W.heap[b]?
theorem Kp.refl (N:Nat) (W:World):Kp N W W:=⟨I3 _,fun _ _ _=>rfl⟩
theorem Kp.trans {N:Nat} {a b c:World} (h:Kp N a b) (k:Kp N b c):Kp N a c:=⟨Iq h.1 k.1,fun x h1 h2=>(k.2 x h1 (Nat.lt_of_lt_of_le h2 h.1)).trans (h.2 x h1 h2)⟩
theorem Kp.of_below {N:Nat} {W W':World} (h:Below W.heap.size W W'):Kp N W W':=⟨h.size,fun b _ hb=>h.block b hb⟩
theorem Kp.set {N p:Nat} {W W':World} (h:Kp N W W') (hp:p<N) (j:Nat) (u:Value):Kp N W (W'.setCell ⟨p,j,none⟩ u):=⟨by simpa using h.1,fun b h1 h2=>(I2 _ _ _ _ (fun e:b=p=>by omega)).trans (h.2 b h1 h2)⟩
theorem Kp.alloc {N:Nat} {W W':World} (h:Kp N W W') (o:Obj):Kp N W (W'.alloc o):=⟨by have:=h.1;simp;omega,fun b h1 h2=>(Hz _ _ _ (by have:=h.1;omega)).trans (h.2 b h1 h2)⟩
def Kn (N:Nat) (v:Value) (b:Nat):Prop:=N≤b∧v.ownBlock≠some b
structure CpA (N:Nat) (W:World) (X:Wd) (V:Vs):Prop where
 ta:dd (Kn N V.f) W 4 V.t (X.tab.map Sl.cells)
 li:dd (Kn N V.f) W 6 V.l (X.lives.map Lf.cells)
 re:dd (Kn N V.f) W 5 V.r (X.reqs.map Rq.cells)
 sp:dd (Kn N V.f) W 2 V.s (X.ring.map Sp.cells)
 of:W.ownsRow N 98 7 V.f X.flows.length (X.flows.map Fl.cells).flatten
theorem pl {N:Nat} {K:Nat→Prop} {W W':World} {sz:Nat} {v:Value} {L:List (List Value)} (h:dd K W sz v L) (k:Kp N W W') (hK:∀ b,K b→N≤b):dd K W' sz v L:=bG h k.1 (fun b h1 h2=>k.2 b (hK b h2) h1)
theorem nD {N B sz n:Nat} {W W':World} {t:TypeId} {v:Value} {cs:List Value} (h:W.ownsRow B t sz v n cs) (k:Kp N W W') (hN:N≤B):W'.ownsRow B t sz v n cs:=aX h (fun b e=>k.2 b (by have:=(h.lt b e).1;omega) (h.lt b e).2)
structure CpZ (N:Nat) (W:World) (X:Wd) (V:Vs):Prop where
 ro:nQ (fun b=>N≤b∧V.f.ownBlock≠some b∧V.h.ownBlock≠some b) W X V
 of:W.ownsRow N 98 7 V.f X.flows.length (X.flows.map Fl.cells).flatten
 oh:W.ownsRow N 129 4 V.h X.health.length (eE X V).flatten
 ne:∀ b,V.f.ownBlock=some b→V.h.ownBlock≠some b
theorem CpZ.kp {N:Nat} {W W':World} {X:Wd} {V:Vs} (h:CpZ N W X V) (k:Kp N W W'):CpZ N W' X V:=
 ⟨dG h.ro k.1 (fun b h1 h2=>k.2 b h2.1 h1),nD h.of k (I3 _),nD h.oh k (I3 _),h.ne⟩
theorem jI {N:Nat} {W:World} {X:Wd} {V:Vs} (h:CpZ N W X V) (hN:N≤W.heap.size):∃ S,G N W.heap.size (W.alloc (.cells (dj X V++[Value.slice none 0 0]).toArray 113)) X [] S V (.slice none 0 0)∧∀ x∈S,N≤x:=by
 have k:Kp N W (W.alloc (.cells (dj X V++[Value.slice none 0 0]).toArray 113)):=(Kp.refl N W).alloc _;have h':=h.kp k;refine ⟨W.heap.size :: ((match V.f.ownBlock with|some b=>[b]|none=>[])++(match V.h.ownBlock with|some b=>[b]|none=>[])),?_,?_⟩
 ·refine { bk:=az _ rfl,ro:=?_,of:=h'.of,oh:=h'.oh,oo:=Iv _ _ _ _,pB:=hN,sp:=Im ..,sB:=?_,sl:=?_,sf:=?_,sh:=?_,so:=fun b hb=>by simp [Value.ownBlock] at hb }
  ·refine dG (gT h.ro (fun b hb hk=>⟨fun hm=>?_,hk.1⟩)) k.1 (fun b hb _=>Hz _ _ _ hb);rcases List.mem_cons.1 hm with rfl|hm
   ·omega
   ·rcases List.mem_append.1 hm with hm|hm
    ·cases e:V.f.ownBlock with
     | none=>rw [e] at hm;simp at hm
     | some c=>rw [e] at hm;simp at hm;subst hm;exact hk.2.1 e
    ·cases e:V.h.ownBlock with
     | none=>rw [e] at hm;simp at hm
     | some c=>rw [e] at hm;simp at hm;subst hm;exact hk.2.2 e
  ·exact Q50
  ·intro x hx;have hz:W.heap.size<(W.alloc (.cells (dj X V++[Value.slice none 0 0]).toArray 113)).heap.size:=by simp
   rcases List.mem_cons.1 hx with rfl|hm
   ·exact hz
   ·rcases List.mem_append.1 hm with hm|hm
    ·cases e:V.f.ownBlock with
     | none=>rw [e] at hm;simp at hm
     | some c=>rw [e] at hm;simp at hm;subst hm;exact Nat.lt_trans (h.of.lt _ e).2 hz
    ·cases e:V.h.ownBlock with
     | none=>rw [e] at hm;simp at hm
     | some c=>rw [e] at hm;simp at hm;subst hm;exact Nat.lt_trans (h.oh.lt _ e).2 hz
  ·intro b e;exact ⟨by simp [e],by have:=(h.of.lt b e).2;omega⟩
  ·intro b e;exact ⟨by simp [e],by have:=(h.oh.lt b e).2;omega,fun g=>h.ne b g e⟩
 ·exact Q50
def oP (ms:List Value) (H:List Ht) (n k:Nat):List (List Value):=List.zipWith sC ms (H.take k)++iM (n - k)
theorem hcpL_0 (H:List Ht) (n:Nat):oP [] H n 0=iM n:=by simp [oP]
theorem vY {ms:List Value} {H:List Ht} {n k:Nat} (hm:ms.length=k) (hn:H.length=n) (hk:k≤n):(oP ms H n k).length=n:=by
 unfold oP;simp [ij];omega
theorem DH (ms:List Value) (H:List Ht) (n k:Nat):∀ c∈oP ms H n k,c.length=4:=by
 intro c hc;rcases List.mem_append.1 hc with hc|hc
 ·obtain ⟨i,hi,rfl⟩:=List.mem_iff_getElem.1 hc;simp [sC]
 ·exact kQ _ c hc
theorem Bk {ms:List Value} {H:List Ht} {n k:Nat} (hm:ms.length=k) (hn:H.length=n) (hk:k<n) (m:Value):(oP ms H n k).set k (sC m (H.getD k Ht.zero))=oP (ms++[m]) H n (k+1):=by
 have hkl:k<H.length:=by omega
 unfold oP
 have hz:(List.zipWith sC ms (H.take k)).length=k:=by simp;omega
 have e1:iM (n - k)=[.slice none 0 0,.bool false,.int .i64 0,.int .i64 0] :: iM (n - (k+1)):=by
  unfold iM;rw [show n - k=(n - (k+1))+1 by omega,List.replicate_succ]
 rw [e1,List.set_append_right k _ (by omega),hz,Nat.sub_self,List.set_cons_zero]
 have e2:H.take (k+1)=H.take k++[H.getD k Ht.zero]:=by
  rw [Ia hkl];simp [List.getD,hkl]
 rw [e2,List.zipWith_append (by simp;omega)];simp
theorem DG {X:Wd} {V:Vs} {n:Nat} (hn:X.health.length=n):oP V.m X.health n n=eE X V:=by
 unfold oP eE;rw [← hn,List.take_length];simp [iM]
def oO (vs:List Value) (n k:Nat):List (List Value):=vs.map (fun x=>[x])++List.replicate (n - k) [.slice none 0 0]
theorem tW (vs:List Value) (n k:Nat):∀ c∈oO vs n k,c.length=1:=by
 intro c hc;rcases List.mem_append.1 hc with hc|hc
 ·obtain ⟨x,_,rfl⟩:=It.1 hc
  rfl
 ·rw [List.eq_of_mem_replicate hc]
  rfl
theorem qz {vs:List Value} {n k:Nat} (hv:vs.length=k) (hk:k≤n):(oO vs n k).length=n:=by unfold oO;simp;omega
theorem AI {vs:List Value} {n k:Nat} (hv:vs.length=k) (hk:k<n) (m:Value):(oO vs n k).flatten.set k m=(oO (vs++[m]) n (k+1)).flatten:=by
 unfold oO
 have e1:List.replicate (n - k) [Value.slice none 0 0]=[.slice none 0 0] :: List.replicate (n - (k+1)) [Value.slice none 0 0]:=by
  rw [show n - k=(n - (k+1))+1 by omega,List.replicate_succ]
 have e2:∀ vs:List Value,(vs.map fun x=>[x]).flatten=vs:=fun vs=>by induction vs with|nil=>rfl|cons a vs ih=>rw [List.map_cons,List.flatten_cons,ih];rfl
 rw [Il,Il,e1,e2,e2,List.set_append_right k _ (by omega),hv,Nat.sub_self];simp
structure HcS (w W5:World) (A:Array Value) (X:Wd) (k:Nat) (ms:List Value) (wr:World):Prop where
 ml:ms.length=k
 be:Below w.heap.size w wr
 c0:wr.heap[w.heap.size]?=some (.cells A 63 (0,0))
 c1:wr.heap[w.heap.size+1]?=some (.cells bP 63 (0,0))
 kp:Kp (w.heap.size+2) W5 wr
 lt:W5.heap.size<wr.heap.size
 ow:wr.ownsRow (w.heap.size+2) 129 4 (.slice (some ⟨W5.heap.size,0,none⟩) 12 12) 12 (oP ms X.health 12 k).flatten
 ro:∀ i,i<k→dd (fun b=>W5.heap.size<b) wr 1 (ms.getD i undef) (cI (X.health.getD i Ht.zero).marks)
theorem wj {ms:List Value} {m:Value} {i k:Nat} (hl:ms.length=k) (hi:i<k+1):(ms++[m]).getD i undef=if i<k then ms.getD i undef else m:=by
 by_cases h:i<k
 ·rw [if_pos h];simp only [List.getD];rw [IB (by omega)]
 ·rw [if_neg h];simp only [List.getD];rw [IC (by omega)];have:i - ms.length=0:=by omega
  rw [this]
  rfl
theorem Ed (M:List Bool):∀ c∈cI M,c.length=1:=by
 intro c hc;unfold cI at hc;obtain ⟨x,_,rfl⟩:=It.1 hc
 rfl
theorem HcS.next {w W5 wr w6:World} {A:Array Value} {X:Wd} {k n:Nat} {ms:List Value} {m':Value} {BT:TypeId} (h:HcS w W5 A X k ms wr) (hk:k<12) (hX:X.health.length=12) (hN:w.heap.size+2≤W5.heap.size) (o:Obj)
  (hb6:Below (wr.alloc o).heap.size (wr.alloc o) w6) (own6:w6.ownsRow (wr.alloc o).heap.size BT 1 m' n (cI (X.health.getD k Ht.zero).marks).flatten) (hn:(cI (X.health.getD k Ht.zero).marks).length=n) :
  HcS w W5 A X (k+1) (ms++[m']) (((((w6.setCell ⟨wr.heap.size,0,none⟩ m').setCell ⟨W5.heap.size,k*4,none⟩ m').setCell ⟨W5.heap.size,k*4+1,none⟩ (.bool (X.health.getD k Ht.zero).out)).setCell ⟨W5.heap.size,k*4+2,none⟩ (.int .i64 (X.health.getD k Ht.zero).until_)).setCell ⟨W5.heap.size,k*4+3,none⟩ (.int .i64 (X.health.getD k Ht.zero).times)):=by
 have hlt:=h.lt
 have hws:=h.be.size
 have z1:(wr.alloc o).heap.size=wr.heap.size+1:=by simp
 have b6:Below w.heap.size w w6:=(h.be.alloc hws o).trans (hb6.mono (by omega))
 have s6:wr.heap.size+1≤w6.heap.size:=by have:=hb6.size;omega
 have k6:∀ b,b<wr.heap.size→w6.heap[b]?=wr.heap[b]?:=fun b hb=>(hb6.block b (by omega)).trans (Hz _ _ _ hb)
 generalize hW:(((((w6.setCell ⟨wr.heap.size,0,none⟩ m').setCell ⟨W5.heap.size,k*4,none⟩ m').setCell ⟨W5.heap.size,k*4+1,none⟩ (.bool (X.health.getD k Ht.zero).out)).setCell ⟨W5.heap.size,k*4+2,none⟩ (.int .i64 (X.health.getD k Ht.zero).until_)).setCell ⟨W5.heap.size,k*4+3,none⟩ (.int .i64 (X.health.getD k Ht.zero).times))=W
 have keep:∀ b,b≠W5.heap.size→b≠wr.heap.size→W.heap[b]?=w6.heap[b]?:=fun b h1 h2=>by
  rw [← hW,I2 _ _ _ _ h1,I2 _ _ _ _ h1,I2 _ _ _ _ h1,I2 _ _ _ _ h1,I2 _ _ _ _ h2]
 have hz:W.heap.size=w6.heap.size:=by rw [← hW];simp
 have keep2:∀ b,b<wr.heap.size→b≠W5.heap.size→W.heap[b]?=wr.heap[b]?:=fun b h1 h2=>(keep b h2 (by omega)).trans (k6 b h1)
 refine ⟨by simp [h.ml],?_,(keep2 _ (lt_of_block h.c0) (by omega)).trans h.c0,(keep2 _ (lt_of_block h.c1) (by omega)).trans h.c1,⟨by omega,fun b h1 h2=>(keep2 b (by omega) (by omega)).trans (h.kp.2 b h1 h2)⟩,by omega,?_,fun i hi=>?_⟩
 ·rw [← hW];have h5:w.heap.size≤W5.heap.size:=by omega
  exact ((((b6.setCell hws _).setCell h5 _).setCell h5 _).setCell h5 _).setCell h5 _
 ·have e:=aX (w':=w6.setCell ⟨wr.heap.size,0,none⟩ m') h.ow (fun b hb=>by
   simp only [Value.ownBlock,Option.some.injEq] at hb
   rw [I2 _ _ _ _ (fun e:b=wr.heap.size=>by omega)];exact k6 b (by omega))
  have e4:=(((e.stored (k*4) m').1.stored (k*4+1) (.bool (X.health.getD k Ht.zero).out)).1.stored (k*4+2) (.int .i64 (X.health.getD k Ht.zero).until_)).1.stored (k*4+3) (.int .i64 (X.health.getD k Ht.zero).times);rw [sG (DH _ _ _ _) (by rw [vY h.ml hX (by omega)];exact hk)] at e4;rw [hW] at e4;rw [← Bk h.ml hX hk m'];exact e4.1
 ·rw [wj h.ml hi];by_cases hik:i<k
  ·exact Q150
  ·rw [if_neg hik];have:i=k:=by omega
   subst this;have r:=eu (aD own6 hn (Ed _));exact bG (bQ (K':=fun b=>wr.heap.size+1≤b) r (fun b _ hb=>by omega)) (by omega) (fun b h1 h2=>keep b (by omega) (by omega)) |> fun q=>bQ q (fun b _ hb=>by omega)
structure LcS (w W6:World) (A:Array Value) (X:Wd) (k:Nat) (vs:List Value) (wr:World):Prop where
 ml:vs.length=k
 be:Below w.heap.size w wr
 c0:wr.heap[w.heap.size]?=some (.cells A 63 (0,0))
 c1:wr.heap[w.heap.size+1]?=some (.cells bP 63 (0,0))
 kp:Kp (w.heap.size+2) W6 wr
 lt:W6.heap.size<wr.heap.size
 ow:wr.ownsRow (w.heap.size+2) 153 1 (.slice (some ⟨W6.heap.size,0,none⟩) 25 25) 25 (oO vs 25 k).flatten
 ro:∀ i,i<k→dd (fun b=>W6.heap.size<b) wr 2 (vs.getD i undef) ((X.lists.getD i []).map Tm.cells)
theorem LcS.next {w W6 wr w7:World} {A:Array Value} {X:Wd} {k n:Nat} {vs:List Value} {v':Value} {BT:TypeId} (h:LcS w W6 A X k vs wr) (hk:k<25) (hN:w.heap.size+2≤W6.heap.size)
  (hb7:Below wr.heap.size wr w7) (own7:w7.ownsRow wr.heap.size BT 2 v' n ((X.lists.getD k []).map Tm.cells).flatten) (hn:((X.lists.getD k []).map Tm.cells).length=n) :
  LcS w W6 A X (k+1) (vs++[v']) (w7.setCell ⟨W6.heap.size,k,none⟩ v'):=by
 have hlt:=h.lt
 have hws:=h.be.size
 have b7:Below w.heap.size w w7:=h.be.trans (hb7.mono hws)
 have s7:=hb7.size
 have keep:∀ b,b≠W6.heap.size→(w7.setCell ⟨W6.heap.size,k,none⟩ v').heap[b]?=w7.heap[b]?:=fun b h1=>I2 _ _ _ _ h1
 have hz:(w7.setCell ⟨W6.heap.size,k,none⟩ v').heap.size=w7.heap.size:=by simp
 have keep2:∀ b,b<wr.heap.size→b≠W6.heap.size→(w7.setCell ⟨W6.heap.size,k,none⟩ v').heap[b]?=wr.heap[b]?:=fun b h1 h2=>(keep b h2).trans (hb7.block b h1)
 refine ⟨by simp [h.ml],b7.setCell (show w.heap.size≤W6.heap.size by omega) _,(keep2 _ (lt_of_block h.c0) (by omega)).trans h.c0,(keep2 _ (lt_of_block h.c1) (by omega)).trans h.c1,⟨by omega,fun b h1 h2=>(keep2 b (by omega) (by omega)).trans (h.kp.2 b h1 h2)⟩,by omega,?_,fun i hi=>?_⟩
 ·have e:=aX (w':=w7) h.ow (fun b hb=>by
   simp only [Value.ownBlock,Option.some.injEq] at hb
   exact hb7.block b (by omega))
  have e4:=e.stored k v';rw [AI h.ml hk v'] at e4;exact e4.1
 ·rw [wj h.ml hi];by_cases hik:i<k
  ·exact Q150
  ·rw [if_neg hik];have:i=k:=by omega
   subst this;have r:=eu (aD own7 hn (by intro c hc;obtain ⟨x,_,rfl⟩:=It.1 hc;rfl));exact bG (bQ (K':=fun b=>wr.heap.size≤b) r (fun b _ hb=>by omega)) (by omega) (fun b h1 h2=>keep b (by omega)) |> fun q=>bQ q (fun b _ hb=>by omega)
theorem CpZ.mk2 {w W5 W6 W7 W8 Wz:World} {A1 A2:Array Value} {X:Wd} {V:Vs} {ms vs:List Value} (hA:CpA (w.heap.size+2) W5 X V) (hH:HcS w W5 A1 X 12 ms W6) (k6:Kp (w.heap.size+2) W6 W7) (hL:LcS w W7 A2 X 25 vs W8) (kz:Kp (w.heap.size+2) W8 Wz)
  (hN:w.heap.size+2≤W5.heap.size) (hX:X.health.length=12) (hY:X.lists.length=25) :
  CpZ (w.heap.size+2) Wz X { V with h:=.slice (some ⟨W5.heap.size,0,none⟩) 12 12,m:=ms,w:=.slice (some ⟨W7.heap.size,0,none⟩) 25 25 }:=by
 have l5:=hH.lt
 have l7:=hL.lt
 have s67:=k6.1
 have k5z:Kp (w.heap.size+2) W5 Wz:=((hH.kp.trans k6).trans hL.kp).trans kz
 have k6z:Kp (w.heap.size+2) W6 Wz:=(k6.trans hL.kp).trans kz
 have hf:∀ b,V.f.ownBlock=some b→b<W5.heap.size:=fun b e=>(hA.of.lt b e).2
 have up:∀ {sz:Nat} {v:Value} {L:List (List Value)},dd (Kn (w.heap.size+2) V.f) W5 sz v L→dd (fun b=>w.heap.size+2≤b∧V.f.ownBlock≠some b∧(Value.slice (some ⟨W5.heap.size,0,none⟩) 12 12).ownBlock≠some b) Wz sz v L:=by
  intro sz v L r;refine pl (bQ r (fun b hb hk=>⟨hk.1,hk.2,fun e=>?_⟩)) k5z (fun b h=>h.1);simp only [Value.ownBlock,Option.some.injEq] at e;omega
 have wide:∀ {W:World} {sz:Nat} {v:Value} {L:List (List Value)} {n:Nat},W5.heap.size≤n→dd (fun b=>n<b) W sz v L→dd (fun b=>w.heap.size+2≤b∧V.f.ownBlock≠some b∧(Value.slice (some ⟨W5.heap.size,0,none⟩) 12 12).ownBlock≠some b) W sz v L:=by
  intro W sz v L n hn r;refine bQ r (fun b _ hk=>⟨by omega,fun e=>?_,fun e=>?_⟩)
  ·have:=hf b e;omega
  ·simp only [Value.ownBlock,Option.some.injEq] at e;omega
 refine ⟨⟨up hA.ta,up hA.li,up hA.re,up hA.sp,?_,by simp only [hH.ml,hX],fun i hi=>?_⟩,nD hA.of k5z (I3 _),?_,fun b e g=>?_⟩
 ·refine ⟨vs,by rw [hL.ml,hY],?_,fun i hi=>?_⟩
  ·have r:=aD hL.ow (qz hL.ml (I3 _)) (tW _ _ _);have e:oO vs 25 25=vs.map fun x=>[x]:=by simp [oO]
   rw [e] at r
   have rz:aM (w.heap.size+2) Wz 1 (.slice (some ⟨W7.heap.size,0,none⟩) 25 25) (vs.map fun x=>[x]):=by
    have:=aD (nD hL.ow kz (I3 _)) (qz hL.ml (I3 _)) (tW _ _ _);rw [e] at this;exact this
   refine ⟨rz.1,fun b o n c e2 _=>?_⟩;injection e2 with e3 _ _;injection e3 with e3;injection e3 with e3 _;subst e3;refine ⟨by omega,fun e=>?_,fun e=>?_⟩
   ·have:=hf _ e;omega
   ·simp only [Value.ownBlock,Option.some.injEq] at e;omega
  ·rw [hY] at hi;have r:=wide (by omega) (hL.ro i hi);exact pl r kz (fun b h=>h.1)
 ·rw [hX] at hi;exact pl (wide (I3 _) (hH.ro i hi)) k6z (fun b h=>h.1)
 ·have e:=nD hH.ow k6z (I3 _);rw [hX];have e2:=DG (X:=X) (V:={ V with h:=.slice (some ⟨W5.heap.size,0,none⟩) 12 12,m:=ms,w:=.slice (some ⟨W7.heap.size,0,none⟩) 25 25 }) hX;rw [← e2];exact e
 ·simp only [Value.ownBlock,Option.some.injEq] at g;have:=hf b e;omega
end
end Go.Proofs.YtfliffgmeobclaaGreat
