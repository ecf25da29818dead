/- Texts of the row's proof. Conditions: none. -/
import Derived.Test.YtennppmadmgfoaaGreatDoorK15
import Derived.Test.YtennppmadmgfoaaGreatDoorK16
namespace Go.Proofs.YtennppmadmgfoaaGreatDoor
open Proofs.Tryz
set_option maxRecDepth 100000
set_option maxHeartbeats 8000000
section
open Go.RowKit
theorem Q47 {p:Prop} (h:p:=by
 intro x hx;rcases List.mem_cons.1 hx with rfl|hm
 ·exact hN
 ·rcases List.mem_append.1 hm with hm|hm
  ·cases e:V.f.ownBlock with
   | none=>rw [e] at hm;simp at hm
   | some c=>rw [e] at hm;simp at hm;subst hm;exact (h.of.lt _ e).1
  ·cases e:V.h.ownBlock with
   | none=>rw [e] at hm;simp at hm
   | some c=>rw [e] at hm;simp at hm;subst hm;exact (h.oh.lt _ e).1):p:=h
theorem Q97 {p:Prop} (h:p:=by
 have r:=eE (aG h hn hl);exact qz (bU (K':=Kn N f) r (fun b hb hk=>⟨by omega,fun e=>by have:=hf b e;omega⟩)) k (fun b h=>h.1)):p:=h
theorem Q104 {p:Prop} (h:p:=by
 simp only [List.getD,Lj h2,Lj h1,Lj hi,LI,List.getElem_zipWith]):p:=h
theorem Q110 {p:Prop} (h:p:=by
 refine LN (v:=.tuple #[]) (by simp [results,results71,go_sem]) rfl (GTo.same HG.out (hb1.alloc hz1 _) ⟨rfl,rfl,rfl⟩)):p:=h
theorem Q137 {p:Prop} (h:p:=by
 rw [if_pos hik];exact bI (h.ro i hik) (by omega) (fun b h1 h2=>keep2 b h1 (by omega))):p:=h
theorem lE {X:Wd} {V:Vs} (z:V.m.length=X.health.length) {i:Nat} (hi:i<X.health.length):(eO X V).getD i []=wD (V.m.getD i undef) (X.health.getD i Ht.zero):=by
 unfold eO;have h1:i<V.m.length:=by omega
 have h2:i<(List.zipWith wD V.m X.health).length:=by simp;omega
 exact Q104
theorem Dq {X:Wd} {V:Vs} (I:V.m.length=X.health.length) {i:Nat} (z:i<X.health.length) (m:Value) (x:Ht):eO { X with health:=X.health.set i x } { V with m:=V.m.set i m }=(eO X V).set i (wD m x):=by
 unfold eO;simp only;apply List.ext_getElem?;intro E;have h:i<V.m.length:=by omega
 rw [List.getElem?_zipWith,List.getElem?_set,List.getElem?_set,List.getElem?_set,List.getElem?_zipWith];by_cases e:i=E
 ·subst e;simp [h,z];omega
 ·simp [e]
theorem set4 {c:List Value} (h:c.length=4) (a b d e:Value):(((c.set 0 a).set 1 b).set 2 d).set 3 e=[a,b,d,e]:=by
 match c,h with
 | [_,_,_,_],_=>rfl
theorem tV {L:List (List Value)} (I:∀ c∈L,c.length=4) {i:Nat} (h:i<L.length) (a b d e:Value):(((L.flatten.set (i*4) a).set (i*4+1) b).set (i*4+2) d).set (i*4+3) e=(L.set i [a,b,d,e]).flatten:=by
 have E:(L.getD i []).length=4:=I _ (by simp [List.getD,h])
 have J:∀ (c:List Value),c.length=4->∀ U∈L.set i c,U.length=4:=fun c W U Y=>by rcases List.mem_or_eq_of_mem_set Y with z|rfl;exact I _ z;exact W
 have z:∀ (c:List Value),(L.set i c).getD i []=c:=fun c=>by simp [List.getD,h]
 have K:=fW a (j:=0) (by omega) I h;rw [Nat.add_zero] at K;rw [K,fW b (by omega) (J _ (by simpa using E)) (by simpa using h),z,List.set_set,fW d (by omega) (J _ (by simpa using E)) (by simpa using h),z,List.set_set,fW e (by omega) (J _ (by simpa using E)) (by simpa using h),z,List.set_set,set4 E]
theorem Ay {B p:Nat} {w:World} {X:Wd} {O:List Out} {S:List Nat} {V:Vs} {vo:Value} (z:G B p w X O S V vo) {g n c:Nat} (hv:V.h=.slice (some ⟨g,0,none⟩) n c) (i:Nat) (hi:i<X.health.length) (x:Ht) (m:Value) (hm:dj (NI B S) w 1 m (cN x.marks)) :
  G B p ((((w.setCell ⟨g,i*4,none⟩ m).setCell ⟨g,i*4+1,none⟩ (.bool x.out)).setCell ⟨g,i*4+2,none⟩ (.int .i64 x.until_)).setCell ⟨g,i*4+3,none⟩ (.int .i64 x.times)) { X with health:=X.health.set i x } O S { V with m:=V.m.set i m } vo/\
  Fr S w ((((w.setCell ⟨g,i*4,none⟩ m).setCell ⟨g,i*4+1,none⟩ (.bool x.out)).setCell ⟨g,i*4+2,none⟩ (.int .i64 x.until_)).setCell ⟨g,i*4+3,none⟩ (.int .i64 x.times)):=by
 have W:V.h.ownBlock=some g:=by rw [hv];rfl
 obtain ⟨w',K⟩:∃ w',w'=((((w.setCell ⟨g,i*4,none⟩ m).setCell ⟨g,i*4+1,none⟩ (.bool x.out)).setCell ⟨g,i*4+2,none⟩ (.int .i64 x.until_)).setCell ⟨g,i*4+3,none⟩ (.int .i64 x.times)):=⟨_,rfl⟩
 have keep:∀ E,E≠g->w'.heap[E]?=w.heap[E]?:=fun E I=>by
  rw [K,KV _ _ _ _ I,KV _ _ _ _ I,KV _ _ _ _ I,KV _ _ _ _ I]
 have hz:w'.heap.size=w.heap.size:=by rw [K];simp
 have a1:=(z.sh g W).2.1
 have Y:=(z.sh g W).1
 have a0:=z.ro.ml
 have a3:w'.ownsRow B 162 4 V.h X.health.length (((eO X V).set i (wD m x)).flatten):=by
  have h:=z.oh;rw [hv] at h ⊢
  have hn:n=X.health.length:=by
   obtain ⟨a',c',J,_⟩:=aE h;injection J
  rw [hn] at h ⊢;have e4:=(((h.stored (i*4) m).1.stored (i*4+1) (.bool x.out)).1.stored (i*4+2) (.int .i64 x.until_)).1.stored (i*4+3) (.int .i64 x.times);rw [tV (ni X V) (by rw [eC a0];exact hi)] at e4;rw [K];exact e4.1
 rw [<- K]
 have U:=dK z.ro (w':=w') (by omega) (fun E _ I=>keep E (fun h=>I.1 (by rw [h];exact Y)))
 refine ⟨⟨(keep p (fun h=>a1 h.symm)).trans z.bk,⟨U.ta,U.li,U.re,U.sp,U.wh,by simpa using a0,fun j Z=>?_⟩,aZ z.of (fun E h=>keep E (fun J=>(z.sh g W).2.2 (by rw [<- J];exact h))),?_,aZ z.oo (fun E h=>keep E (fun J=>(z.so E h).2.2.2 (by rw [J];exact W))),z.pB,z.sp,z.sB,fun x hx=>by rw [hz];exact z.sl x hx,z.sf,z.sh,z.so⟩,⟨?_,?_,?_,by omega,fun E _ I=>keep E (fun h=>I (by rw [h];exact Y))⟩⟩
 ·simp only [Lq] at Z;have a2:j<V.m.length:=by omega
  by_cases h:j=i
  ·subst h;simp only [List.getD,List.getElem?_set_self a2,List.getElem?_set_self Z,LI];exact bI hm (by omega) (fun E _ I=>keep E (fun h=>I.1 (by rw [h];exact Y)))
  ·have J:¬ i=j:=fun q=>h q.symm;simp only [List.getD,List.getElem?_set_ne J];exact U.mr j Z
 ·show World.ownsRow _ _ _ _ V.h (X.health.set i x).length (eO { X with health:=X.health.set i x } { V with m:=V.m.set i m }).flatten
  rw [Dq a0 hi,Lq];exact a3
 ·rw [K]
  rfl
 ·rw [K]
  rfl
 ·rw [K]
  rfl
def rA (H:List Ht) (b:Int):Bool:=(H.getD b.toNat Ht.zero).out
def yN (L:List Lf):Nat:=L.countP fun x=>x.state == 2
def zE (L:List Lf) (H:List Ht):Nat:=L.countP fun x=>x.state == 2 && rA H x.backend
theorem DQ {L:List Lf} {k:Nat} (hk:k<L.length):yN (L.take (k+1))=yN (L.take k)+if (L.getD k Lf.zero).state == 2 then 1 else 0:=by
 unfold yN;exact Q83
theorem CD {L:List Lf} {H:List Ht} {k:Nat} (hk:k<L.length):zE (L.take (k+1)) H=zE (L.take k) H+if (L.getD k Lf.zero).state == 2 && rA H (L.getD k Lf.zero).backend then 1 else 0:=by
 unfold zE;exact Q83
theorem IP (L:List Lf) (H:List Ht):zE L H<=yN L:=List.countP_mono_left (fun x _ h=>by simp at h;simp [h.1])
theorem JM (L:List Lf):yN L<=L.length:=List.countP_le_length
def DO (X:Wd):Bool:=decide (((zE X.lives X.health:Int)+1)*100<=X.cf.most*(yN X.lives:Int))
def j9 (c:Cf) (h:Ht) (z:Bool) (now:Int) (E:Bool):Ht:=
 if h.out=false/\E=true/\c.wf<=ja (gJ h.marks z c.ww) then ⟨[],true,now+nz c.wh h.times,min (h.times+1) 10⟩ else { h with marks:=gJ h.marks z c.ww }
def ce (X:Wd) (b:Nat) (h:Bool):Wd:={ X with health:=X.health.set b (j9 X.cf (X.health.getD b Ht.zero) h X.now (DO X && i8 X.lives b == 2)) }
theorem Ax (c:Cf) (h:Ht) (E:Bool) (now:Int) (z:Bool) (I:gv c.ww c.wf c.wh h.marks.length h.out h.until_ h.times now 0) :
  ∃ J,BV c.ww c.wf c.wh h.marks h.out h.until_ h.times E now z (j9 c h E now z).marks (j9 c h E now z).out (j9 c h E now z).until_ (j9 c h E now z).times J 0:=by
 unfold j9
 by_cases hc:h.out=false/\z=true/\c.wf<=ja (gJ h.marks E c.ww)
 ·rw [if_pos hc];exact ⟨true,I,Or.inr (Or.inl ⟨rfl,hc.1,hc.2.1,hc.2.2,rfl,rfl,rfl,rfl,rfl⟩)⟩
 ·rw [if_neg hc];refine ⟨false,I,Or.inr (Or.inr ⟨rfl,?_,rfl,rfl,rfl,rfl,rfl⟩)⟩
  cases ho:h.out with
  | true=>exact Or.inl rfl
  | false=>
   cases z with
   | false=>exact Or.inr (Or.inl ⟨rfl,rfl⟩)
   | true=>exact Or.inr (Or.inr ⟨rfl,rfl,by simp [ho] at hc;omega⟩)
theorem uP (o a m:Int) (w:World) (Y:0<=o) (Z:o<=a) (E:a<=12) (I:0<=m) (J:m<=100):Calls prog 128 #[.int .i64 o,.int .i64 a,.int .i64 m] w fun e w'=>e=.returned (.tuple #[.bool (decide ((o+1)*100<=m*a)),.int .i64 0])/\Below w.heap.size w w':=by
 obtain ⟨y,z⟩:∃ y,y=m*a:=⟨_,rfl⟩
 have K:0<=y:=by rw [z];exact Int.mul_nonneg I (by omega)
 have U:y<=1200:=by rw [z];exact Int.le_trans (Int.mul_le_mul J E (by omega) (by omega)) (by omega)
 have W:IntKind.i64.wrap (m*a)=y:=by rw [<- z,IntKind.wrap_i64];omega
 rw [<- z];clear z;by_cases hd:(o+1)*100<=y
 ·rw [decide_eq_true hd];go_in;go_wp2
  all_goals first|(refine LN (v:=.tuple #[.bool true,.int .i64 0]) ?_ rfl ?_;(focus (first|(simp [results,results128,go_sem];done)|(simp [results,results128,go_sem, *];done)));exact ⟨rfl,Zb⟩)|exact Zx
 ·rw [decide_eq_false hd];have a0:y<(o+1)*100:=by omega
  go_in;go_wp2
  all_goals first|(refine LN (v:=.tuple #[.bool false,.int .i64 0]) ?_ rfl ?_;(focus (first|(simp [results,results128,go_sem];done)|(simp [results,results128,go_sem, *];done)));exact ⟨rfl,Zb⟩)|exact Zx
def kt (L:List Lf) (b:Int):List Lf:=match L.findIdx? (cM b) with
 | some i=>L.set i (L.getD i Lf.zero).done
 | none=>L
def cj (X:Wd) (b:Int):Wd×List Out:=match dJ X.lives b with
 | some x=>if x.state=3/\j8 X.tab b X.tab.length=[] then ({ X with lives:=kt X.lives b },[⟨9,0,0,b,x.request,0,0⟩]) else (X,[])
 | none=>(X,[])
theorem yo {L:List Lf} {b:Int} {i:Nat} (h:aU (cM b) L=i):kt L b=L.set i (L.getD i Lf.zero).done:=by
 unfold aU at h;unfold kt
 cases e:L.findIdx? (cM b) with
 | none=>rw [e] at h;simp at h
 | some z=>rw [e] at h;obtain rfl:z=i:=(by have E:(z:Int)=i:=h;omega);rfl
theorem vX {L:List Lf} {R:List Rq} {b:Int} {x:Lf} (J:bJ L R) (h:dJ L b=some x) (K:x.state=3):KH L R b (kt L b) R 0:=by
 rcases bM (cM b) L Lf.zero with ⟨z,_⟩|⟨I,E,z,_⟩
 ·rw [(fP L b).1 z] at h
  cases h
 ·rw [(fP L b).2 I z E] at h;injection h with h;exact Or.inr (Or.inr (Or.inr ⟨J,⟨I,E,z,by rw [h];exact K,yo z⟩,rfl,rfl⟩))
theorem GTo.same {B p:Nat} {w w':World} {X:Wd} {O:List Out} {S:List Nat} {V:Vs} {vo:Value} (z:G B p w X O S V vo) (h:Below w.heap.size w w') {Q:Vs->Prop} (E:Q V) {r:Value}:GTo B p w S X O Q r (.returned r) w':=
 ⟨S,V,vo,rfl,dF z h,E,Fr.of_below h,fun _ I=>Or.inl I⟩
def KG (V h:Vs):Prop:=h.f=V.f/\h.h=V.h/\h.m=V.m
theorem kC {B p:Nat} {w:World} {X:Wd} {O:List Out} {S:List Nat} {V:Vs} {vo:Value} (h:G B p w X O S V vo) (b:Int) (Z:bJ X.lives X.reqs) (ht:dR X.tab) (hO:O.length<=1000000) :
  Calls prog 71 #[.pointer (some ⟨p,0,none⟩),.int .i64 b] w (GTo B p w S (cj X b).1 (O++(cj X b).2) (KG V) (.tuple #[])):=by
 have E:=h.gr
 have ab:=E.c 19 (v:=V.l) rfl
 have ac:=E.c 20 (v:=V.r) rfl
 have aA:=E.c 17 (v:=V.t) rfl
 have xf:∀ W,w.frozen? ⟨p,W,none⟩=false:=fun W=>az h.bk W
 obtain ⟨al,cl,el,_⟩:=ap E.1.li.1
 obtain ⟨ar,cr,er,_⟩:=ap E.1.re.1
 obtain ⟨at_,ct,et,_⟩:=ap E.1.ta.1
 rw [el] at ab
 rw [er] at ac
 rw [et] at aA
 have HL:=KL E.1.li.1
 have HR:=KL E.1.re.1
 have HT:=KL E.1.ta.1
 rw [el] at HL
 rw [er] at HR
 rw [et] at HT
 obtain ⟨x,code,ha⟩:=pI X.lives X.reqs b
 have HA:=KL ha
 have I:=yV Z ha
 have hp:=h.plt
 have HG:=KL h
 have HM:=KL Z
 have af:=KL ht
 rcases I with ⟨rfl,I,rfl⟩|⟨rfl,I⟩
 ·have z:cj X b=(X,[]):=by unfold cj;rw [I]
  rw [z];simp only [List.append_nil];clear h Z ha I z el er et E ht;go_in;go_wp2_with (go_at_call 74;refine (iP _ _ X.lives X.reqs b ⟨0,0,0,0,0,0⟩ 8 _ HL.out HR.out HA.out).mono ?_;rintro z K ⟨J,hb1⟩;simp only [Lf.agg] at J;subst J;obtain ⟨a7,a8⟩:=aX hb1;have hz1:=hb1.size;have aa:p<K.heap.size:=(by omega));exact Q110
 ·obtain ⟨x0,x1,x2,x3,x4,x5⟩:=x;by_cases hst:x1=3;rotate_left
  ·have z:cj X b=(X,[]):=by unfold cj;rw [I];simp only;rw [if_neg (fun h=>hst h.1)]
   rw [z];simp only [List.append_nil];have e1:(x1 != 3)=true:=by simpa using hst
   clear h Z ha I z el er et E ht hst;go_in;go_wp2_with (go_at_call 74;refine (iP _ _ X.lives X.reqs b ⟨x0,x1,x2,x3,x4,x5⟩ 0 _ HL.out HR.out HA.out).mono ?_;rintro z K ⟨J,hb1⟩;simp only [Lf.agg] at J;subst J;obtain ⟨a7,a8⟩:=aX hb1;have hz1:=hb1.size;have aa:p<K.heap.size:=(by omega));exact Q110
  ·subst hst;have a9:=vX Z I rfl;obtain ⟨OL,a0⟩:∃ OL,OL=j8 X.tab b X.tab.length:=⟨_,rfl⟩;by_cases hol:OL=[];rotate_left
   ·have z:cj X b=(X,[]):=by unfold cj;rw [I];simp only;rw [if_neg (fun h=>hol (a0.trans h.2))]
    rw [z];simp only [List.append_nil]
    have e1:(0:Int)<(OL.length:Int):=by have:=List.length_pos_iff.2 hol;omega
    have a6:=KL a0;clear h Z ha I z el er et E ht hol a0 a9;go_in;go_wp2_with (first|(go_at_call 74;refine (iP _ _ X.lives X.reqs b ⟨x0,3,x2,x3,x4,x5⟩ 0 _ HL.out HR.out HA.out).mono ?_;rintro z K ⟨J,hb1⟩;simp only [Lf.agg] at J;subst J;obtain ⟨a7,a8⟩:=aX hb1;have hz1:=hb1.size;have aa:p<K.heap.size:=(by omega))|(go_at_call 79;refine (pv X.tab b _ _ (ai (aq HT.out hb1) _) af.out).mono ?_;rw [<- a6.out];rintro z w2 ⟨v2,rfl,r2,U⟩;obtain ⟨a2,c2,rfl,_⟩:=ap r2;obtain ⟨av,aw⟩:=aX U;clear r2));refine LN (v:=.tuple #[]) (by simp [results,results71,go_sem]) rfl (GTo.same HG.out ((hb1.alloc hz1 _).trans (U.mono (by simp;omega))) ⟨rfl,rfl,rfl⟩)
   ·subst hol
    have z:cj X b=({ X with lives:=kt X.lives b },[⟨9,0,0,b,x5,0,0⟩]):=by unfold cj;rw [I];simp only;rw [if_pos ⟨trivial,a0.symm⟩]
    rw [z];have a6:=KL a0;have am:=KL a9;clear h Z ha I z el er et E ht a0 a9;go_in;go_wp2_with (first|(go_at_call 74;refine (iP _ _ X.lives X.reqs b ⟨x0,3,x2,x3,x4,x5⟩ 0 _ HL.out HR.out HA.out).mono ?_;rintro z K ⟨J,hb1⟩;simp only [Lf.agg] at J;subst J;obtain ⟨a7,a8⟩:=aX hb1;have hz1:=hb1.size;have aa:p<K.heap.size:=(by omega))|(go_at_call 79;refine (pv X.tab b _ _ (ai (aq HT.out hb1) _) af.out).mono ?_;rw [<- a6.out];rintro z w2 ⟨v2,rfl,r2,U⟩;obtain ⟨a2,c2,rfl,_⟩:=ap r2;obtain ⟨av,aw⟩:=aX U;clear r2));have Y:Below w.heap.size w w2:=(hb1.alloc hz1 _).trans (U.mono (by simp;omega));have y5:w2.cell? ⟨K.heap.size,5,none⟩=some (.int .i64 x5):=ah U (by go_simp) (by simp);have ax:=U.size;simp at ax;refine (Cw _ _ X.lives X.reqs b (kt X.lives b) X.reqs 0 _ (aq HL.out Y) (aq HR.out Y) am.out).mono ?_;rintro z w3 ⟨v1,v2,rfl,R1,R2,a5⟩;obtain ⟨a3,c3,rfl,_⟩:=ap R1.1;obtain ⟨a4,c4,rfl,_⟩:=ap R2.1;have a1:Below w.heap.size w w3:=Y.trans (a5.mono Y.size);have y5:=ah a5 y5 (by omega);have ab:=ah a1 ab hp;have ac:=ah a1 ac hp;have xf:∀ W,w3.frozen? ⟨p,W,none⟩=false:=fun W=>(a1.frozen (p:=⟨p,W,none⟩) hp).trans (xf W);have aF:=a5.size;have n1:¬ K.heap.size=p:=by omega
    have n2:¬ p=K.heap.size:=by omega
    have G3:=dF HG.out a1;have k1:=dv HG.out R1 Y.size;have k2:=dv HG.out R2 Y.size;have G4:=iY G3 19 (.slice a3 (kt X.lives b).length c3) { X with lives:=kt X.lives b } { V with l:=.slice a3 (kt X.lives b).length c3 } rfl rfl rfl rfl rfl rfl { G3.ro with li:=k1 }
    have k3:dj (NI B S) (w3.setCell ⟨p,19,none⟩ (.slice a3 (kt X.lives b).length c3)) 5 (.slice a4 X.reqs.length c4) (X.reqs.map Rq.cells):=
     bI k2 (by simp) (fun b' _ au=>KV _ _ _ _ (fun z=>au.1 (by have e':b'=p:=z;rw [e'];exact G3.sp)))
    have G5:=iY G4 20 (.slice a4 X.reqs.length c4) { X with lives:=kt X.lives b } { V with l:=.slice a3 (kt X.lives b).length c3,r:=.slice a4 X.reqs.length c4 } rfl rfl rfl rfl rfl rfl { G4.ro with re:=k3 };have H5:=KL G5;have F4:Fr S w _:=(Fr.of_below a1).trans ((di G3.sp 19 (.slice a3 (kt X.lives b).length c3)).trans (di G3.sp 20 (.slice a4 X.reqs.length c4)) (fun _ hx=>Or.inl hx)) (fun _ hx=>Or.inl hx);have ad:=KL F4;clear R1 R2 a5 G3 k1 k2 k3 G4 G5 F4 Y U hb1;go_wp2_with fail;refine (dw H5.out ⟨9,0,0,b,x5,0,0⟩ hO).mono ?_;rintro z w5 ⟨S5,V5,ay,rfl,G6,rfl,F5,ag⟩;have an:=KL G6;have ak:=KL (ad.out.trans F5 (fun _ hx=>Or.inl hx));have ao:=KL ag;have aH:=ad.out.size;clear G6 F5 ag;go_wp2_with fail;refine LN (v:=.tuple #[]) (by simp [results,results71,go_sem]) rfl ⟨S5,_,ay,rfl,an.out,⟨rfl,rfl,rfl⟩,ak.out,fun x hx=>?_⟩;rcases ao.out x hx with g|g
    ·exact Or.inl g
    ·exact Or.inr (by omega)
end
end Go.Proofs.YtennppmadmgfoaaGreatDoor
