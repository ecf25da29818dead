/- Texts of the row's proof. Conditions: none. -/
import Derived.Test.YtennppmadmgfoaaGreatDoorK06
import Derived.Test.YtennppmadmgfoaaGreatDoorK07
namespace Go.Proofs.YtennppmadmgfoaaGreatDoor
open Proofs.Tryz
set_option maxRecDepth 100000
set_option maxHeartbeats 8000000
section
open Go.RowKit
theorem Q46 {p:Prop} (h:p:=by
 have h1:=h.o1
 have e:n=L.length:=by
  rcases h1.2 with ⟨e,_⟩|⟨_,_,_,e,_⟩
  ·cases e
  ·simp only [Value.slice.injEq] at e;exact e.2.1
 subst e;refine ⟨?_,h1.frozenAt _⟩
 have hl:i*6+j<L.length*6:=by have:(i+1)*6<=L.length*6:=Lt _ (by omega);omega
 rw [h1.cellAt _ hl,fy (jc L) i j (by simpa using hi) hj];simp [List.getD,hi]):p:=h
theorem Q118 {p:Prop} (h:p:=by
 rcases h.o1.2 with ⟨_,h0⟩|⟨gg,cap,cur,e,h1,h2,_⟩
 ·omega
 ·exact ⟨gg,cap,e,h1,h.l1 gg (by rw [e];rfl)⟩):p:=h
theorem Q131 {p:Prop} (h:p:=by
 go_wp2
 all_goals first|(go_ret;exact ⟨rB (by first|rfl|(simp;have:=HD.out;omega)),Zb⟩)|exact Zx):p:=h
theorem Q135 {p:Prop} (h:p:=by
 go_wp2
 all_goals first|(go_ret;exact ⟨rB (by first|rfl|(simp;exact HD.out)),Zb⟩)|exact Zx):p:=h
theorem Q139 {p:Prop} (h:p:=by
 go_wp2
 all_goals first|(go_ret;exact ⟨congrArg Ending.returned HV.out.symm,Zb⟩)|exact Zx):p:=h
structure BkAt (B:Nat) (w:World) (p:Nat) (v1 v2:Value) (L:List Lf) (R:List Rq):Prop where
 hB:B<=p
 hh:w.heap[p]?=some (.cells #[v1,v2] 259 (0,0))
 o1:w.ownsRow B 173 6 v1 L.length (L.map Lf.cells).flatten
 o2:w.ownsRow B 176 5 v2 R.length (R.map Rq.cells).flatten
 l1:∀ b,v1.ownBlock=some b->b<p
 l2:∀ b,v2.ownBlock=some b->b<p
 dis:∀ b,v1.ownBlock=some b->v2.ownBlock≠some b
theorem BkAt.lt {B:Nat} {w:World} {p:Nat} {v1 v2:Value} {L:List Lf} {R:List Rq} (h:BkAt B w p v1 v2 L R):p<w.heap.size:=lt_of_block h.hh
theorem BkAt.below {B:Nat} {w w':World} {p:Nat} {v1 v2:Value} {L:List Lf} {R:List Rq} (h:BkAt B w p v1 v2 L R) (z:Below w.heap.size w w'):BkAt B w' p v1 v2 L R:=
 ⟨h.hB,aj z h.hh h.lt,bF h.o1 z,bF h.o2 z,h.l1,h.l2,h.dis⟩
theorem BkAt.r1 {B:Nat} {w:World} {p:Nat} {v1 v2:Value} {L:List Lf} {R:List Rq} (h:BkAt B w p v1 v2 L R):aN B w 6 v1 (L.map Lf.cells):=aG h.o1 (by simp) (jc L)
theorem BkAt.r2 {B:Nat} {w:World} {p:Nat} {v1 v2:Value} {L:List Lf} {R:List Rq} (h:BkAt B w p v1 v2 L R):aN B w 5 v2 (R.map Rq.cells):=aG h.o2 (by simp) (nj R)
theorem jd {w:World} {sz:Nat} {v:Value} {L:List (List Value)} (h:aK w sz v L):aK w.drew sz v L:=dH h 1
theorem BkAt.addr {B:Nat} {w:World} {p:Nat} {v1 v2:Value} {L:List Lf} {R:List Rq} (h:BkAt B w p v1 v2 L R) {i:Nat} (z:i<L.length):∃ g cap,v1=.slice (some ⟨g,0,none⟩) L.length cap/\B<=g/\g<p:=by
 exact Q118
theorem BkAt.cell {B:Nat} {w:World} {p g n z:Nat} {v2:Value} {L:List Lf} {R:List Rq} (h:BkAt B w p (.slice (some ⟨g,0,none⟩) n z) v2 L R) {i j:Nat} (hi:i<L.length) (hj:j<6):w.cell? ⟨g,i*6+j,none⟩=((L.getD i Lf.zero).cells)[j]?/\w.frozen? ⟨g,i*6+j,none⟩=false:=by
 exact Q46
def OpBad (w:World) (e:Ending) (w':World):Prop:=e=.returned (.tuple #[.pointer none,.int .i64 6])/\Below w.heap.size w w'
def OpPost (w:World) (L:List Lf) (R:List Rq) (e:Ending) (w':World):Prop:=∃ p v1 v2,e=.returned (.tuple #[.pointer (some ⟨p,0,none⟩),.int .i64 0])/\BkAt w.heap.size w' p v1 v2 L R/\Below w.heap.size w w'
theorem gQ (I J:Value) (L:List Lf) (R:List Rq) (w:World) (z:aK w 6 I (L.map Lf.cells)) (E:aK w 5 J (R.map Rq.cells)) (h:¬ bJ L R):Calls prog 108 #[.agg #[I,J]] w (OpBad w):=by
 have K:Hid (AD L R 6):=Or.inr ⟨h,rfl⟩;have U:=KL z;have W:=KL E;obtain ⟨Z,c,rfl,_⟩:=ap z;obtain ⟨a',c',rfl,_⟩:=ap E;clear z E h;go_in;go_wp2_with fail;refine (kD _ _ L R 6 _ (ai U.out _) (ai W.out _) K.out).mono ?_;rintro e w1 ⟨rfl,Y⟩;obtain ⟨a0,a1⟩:=aX Y;go_wp2;refine LN (v:=.tuple #[.pointer none,.int .i64 6]) ?_ rfl ⟨rfl,Zb⟩;simp [results,results108,go_sem, *]
theorem mY {w:World} {B e sz n:Nat} {v:Value} {cs:List Value} (h:w.ownsRow B e sz v n cs):∀ b,v.ownBlock=some b->B<=b/\b<w.heap.size:=fun b z=>h.lt b z
theorem cV (vl vr:Value) (L:List Lf) (R:List Rq) (w:World) (hl:aK w 6 vl (L.map Lf.cells)) (hr:aK w 5 vr (R.map Rq.cells)) (h:bJ L R):Calls prog 108 #[.agg #[vl,vr]] w (OpPost w L R):=by
 have HC:Hid (AD L R 0):=Or.inl ⟨h,rfl⟩;have HL:=KL hl;have HR:=KL hr
 have n1:L.length*48<=140737488351232:=by have:=h.1;omega
 have n2:R.length*40<=140737488351232:=by have:=h.2.1;omega
 obtain ⟨a,c,rfl,_⟩:=ap hl;obtain ⟨a',c',rfl,_⟩:=ap hr;clear hl hr h;go_in;go_wp2_with fail;refine (kD _ _ L R 0 _ (ai HL.out _) (ai HR.out _) HC.out).mono ?_;rintro W w1 ⟨rfl,hb1⟩;have e0:w1.cell? ⟨w.heap.size,0,none⟩=some (.slice a L.length c):=aC hb1 (by go_simp);have e1:w1.cell? ⟨w.heap.size,1,none⟩=some (.slice a' R.length c'):=aC hb1 (by go_simp);have B1:=KL (((KM w.heap.size w).alloc (KY _) _).trans (hb1.mono (by simp)));have R1:=KL (aq HL.out B1.out);have R2:=KL (aq HR.out B1.out);have s1:=hb1.size;simp at s1;clear hb1;go_wp2_with fail;refine Zr ((fun w'=>w'.cell? ⟨w.heap.size,0,none⟩=some (.slice a L.length c)/\w'.cell? ⟨w.heap.size,1,none⟩=some (.slice a' R.length c'))) (fun a0=>?_);refine dl 0 ?_;refine dl 3 ?_;refine Z1 2 (fun K hK=>?_);go_simp;(first|(go_at_call 56;refine (vF _ L _ (jd R1.out) n1).mono ?_;rintro W w2 ⟨v1,rfl,o1,hb2⟩;obtain ⟨Y,y1,rfl,_⟩:=aE o1)|(go_at_call 57;refine (vE _ R _ (aq (jd R2.out) hb2) n2).mono ?_;rintro W J ⟨v2,rfl,E,hb3⟩;obtain ⟨Z,y2,rfl,_⟩:=aE E));(try go_wp2_with fail);refine Zk hK fun a0=>?_;clear hK K;refine Z1 5 (fun K hK=>?_);go_simp;(first|(go_at_call 56;refine (vF _ L _ (jd R1.out) n1).mono ?_;rintro W w2 ⟨v1,rfl,o1,hb2⟩;obtain ⟨Y,y1,rfl,_⟩:=aE o1)|(go_at_call 57;refine (vE _ R _ (aq (jd R2.out) hb2) n2).mono ?_;rintro W J ⟨v2,rfl,E,hb3⟩;obtain ⟨Z,y2,rfl,_⟩:=aE E));(try go_wp2_with fail);refine Zk hK fun a0=>?_;clear hK K;refine dl 6 ?_;refine Z1 8 (fun K hK=>?_);go_simp;refine Zk hK fun a0=>?_;clear hK K;refine dl 9 ?_;refine Zd ?_;have U:=mY o1;have O2:=mY E;have s2:=hb2.size;have s3:=hb3.size;simp at s2 U;have K:=KL (BkAt.mk (B:=w.heap.size) (w:=J.alloc (.cells #[.slice Y L.length y1,.slice Z R.length y2] 259)) (p:=J.heap.size) (v1:=.slice Y L.length y1) (v2:=.slice Z R.length y2) (L:=L) (R:=R) (by omega) (aB _ rfl) (bF (bF (rx o1 (by simp;omega)) hb3) ((KM _ _).alloc (KY _) _)) (bF (rx E (by omega)) ((KM _ _).alloc (KY _) _)) (fun z I=>by have:=U z I;omega) (fun z I=>by have:=O2 z I;omega) (fun z I hb2=>by have:=U z I;have:=O2 z hb2;omega));have B3:Hid (Below w.heap.size w (J.alloc (.cells #[.slice Y L.length y1,.slice Z R.length y2] 259))):=(((B1.out.trans ((KN (KM _ _)))).trans (hb2.mono (by simp;omega))).trans (hb3.mono (by omega))).alloc (by omega) _;clear o1 E hb2 hb3 U O2;go_wp2;refine LN (v:=.tuple #[.pointer (some ⟨J.heap.size,0,none⟩),.int .i64 0]) ?_ rfl ⟨_,_,_,rfl,K.out,B3.out⟩;simp [results,results108,go_sem, *]
theorem Ks (x:Lf) (b:Nat) (z:Int) (w:World) (h:w.cell? ⟨b,0,none⟩=some (.int .i64 z)):Calls prog 152 #[Lf.agg x,.pointer (some ⟨b,0,none⟩)] w fun e w'=>e=.returned (.bool (x.backend == z))/\Below w.heap.size w w':=by
 obtain ⟨E,U,Y,K,W,J⟩:=x;have I:=bV h;unfold Lf.agg;go_in;go_wp2
 all_goals first|(go_ret;exact ⟨rfl,Zb⟩)|exact Zx
def kg (v:Value) (i:Int):Value:=match v with
 | .slice (some a) _ _=>if i<0 then .pointer none else .pointer (some ⟨a.block,i.toNat*6,none⟩)
 | _=>.pointer none
def cM (b:Int) (x:Lf):Bool:=x.backend == b
theorem dS (B p:Nat) (v1 v2:Value) (L:List Lf) (R:List Rq) (z:Int) (w:World) (h:BkAt B w p v1 v2 L R) (hn:L.length<=12) :
  Calls prog 118 #[.pointer (some ⟨p,0,none⟩),.int .i64 z] w fun e w'=>e=.returned (kg v1 (aU (cM z) L))/\Below w.heap.size w w':=by
 have c0:=ae h.hh 0
 simp at c0
 have lp:=h.lt
 have RR:=KL h.r1.1
 have U:=fun {J:Nat} (E:J<L.length)=>h.addr E
 obtain ⟨a,a0,rfl,_⟩:=aE h.o1
 clear h
 rcases bM (cM z) L Lf.zero with ⟨E,_⟩|⟨J,E,Z,_⟩
 ·have I:kg (.slice a L.length a0) (aU (cM z) L)=.pointer none:=by rw [E];cases a<;>simp [kg]
  have HV:=KL I;have W:=KL E;clear E I U;go_in;go_wp2_with fail;refine (tN 152 ⟨w.heap.size,0,none⟩ (fun _ _=>rfl) (cM z) _ L _ (ai RR.out _) (by omega) (fun x _ w' Y=>Ks x _ z w' (aC Y (by go_simp)))).mono ?_;rintro e w1 ⟨rfl,K⟩;rw [W.out];obtain ⟨a1,a2⟩:=aX K;exact Q139
 ·obtain ⟨g,a3,hg,_⟩:=U E;simp only [Value.slice.injEq] at hg;obtain ⟨rfl,_,rfl⟩:=hg;clear U
  have I:kg (.slice (some ⟨g,0,none⟩) L.length a0) (aU (cM z) L)=.pointer (some ⟨g,J*6,none⟩):=by rw [Z];simp [kg]
  have HV:=KL I;have W:=KL Z;have a4:(J:Int)<(L.length:Int):=by omega
  have p0:(0:Int)<=(J:Int):=by omega
  clear Z I;go_in;go_wp2_with fail;refine (tN 152 ⟨w.heap.size,0,none⟩ (fun _ _=>rfl) (cM z) _ L _ (ai RR.out _) (by omega) (fun x _ w' Y=>Ks x _ z w' (aC Y (by go_simp)))).mono ?_;rintro e w1 ⟨rfl,K⟩;rw [W.out];obtain ⟨a1,a2⟩:=aX K;have a5:=fX K;exact Q139
def Hn (w:World) (X:List Sl) (e:Ending) (w':World):Prop:=∃ v,e=.returned (.agg #[v])/\aN w.heap.size w' 4 v (X.map Sl.cells)/\Below w.heap.size w w'
theorem oF (v:Value) (X:List Sl) (i:Nat) (g:Int) (u:Bool) (U J:Int) (w:World) (r:aK w 4 v (X.map Sl.cells)) (hn:X.length<=40) (hi:i<X.length) :
  Calls prog 104 #[.agg #[v],.int .i64 i,.agg #[.int .i64 g,.bool u,.int .i64 U,.int .i64 J]] w (Hn w (X.set i ⟨g,u,U,J⟩)):=by
 have R:=KL r
 obtain ⟨a,c,rfl,_⟩:=ap r
 have a6:(i:Int)<(X.length:Int):=by omega
 clear r
 go_in
 go_wp2_with fail
 refine (BD _ X _ (ai (ai (ai R.out _) _) _) (by omega)).mono ?_
 rintro e w1 ⟨v1,rfl,a0,Y⟩
 have hX:0<X.length:=by omega
 have Z:=KL a0
 obtain ⟨z,K,W,rfl,a1,a4⟩:∃ z K W,v1=.slice (some ⟨z,0,none⟩) X.length K/\((w.alloc (.cells #[.slice a X.length c] 40)).alloc (.cells #[.int .i64 g,.bool u,.int .i64 U,.int .i64 J] 167) |>.alloc (.cells #[.slice none 0 0] 40)).heap.size<=z/\w1.heap[z]?=some (.cells W 167 (0,0)):=by
  rcases a0.2 with ⟨_,h0⟩|⟨z,K,W,e,h1,h2,_⟩
  ·omega
  ·exact ⟨z,K,W,e,h1,h2⟩
 obtain ⟨a3,a5⟩:=aX Y
 have a7:=fX Y
 have a2:=Y.size
 simp at a2 a1
 have I:∀ E,E<4->w1.cell? ⟨z,i*4+E,none⟩=((X.getD i Sl.zero).cells)[E]?/\w1.frozen? ⟨z,i*4+E,none⟩=false:=by
  intro E hj;refine ⟨?_,Z.out.frozenAt _⟩;rw [Z.out.cellAt _ (by omega),fy (ld X) i E (by simpa using hi) hj];simp [List.getD,hi]
 generalize hs:(X.getD i Sl.zero)=s at I
 obtain ⟨t0,t1,t2,t3⟩:=s
 have q0:=I 0 (by omega)
 have q1:=I 1 (by omega)
 have q2:=I 2 (by omega)
 have q3:=I 3 (by omega)
 simp only [Sl.cells,Lb,Lc,Nat.add_zero] at q0 q1 q2 q3
 obtain ⟨a8,a9⟩:=q0
 obtain ⟨aa,ab⟩:=q1
 obtain ⟨ac,ad⟩:=q2
 obtain ⟨af,ag⟩:=q3
 clear I hs a0
 go_wp2
 refine LN (v:=.agg #[.slice (some ⟨z,0,none⟩) X.length K]) ?_ rfl ⟨_,rfl,?_,?_⟩
 ·simp [results,results104,go_sem, *]
 ·refine aJ (aG (base:=w.heap.size+1+1+1) (e:=167) (n:=X.length) (L:=(X.set i ⟨g,u,U,J⟩).map Sl.cells) ?_ (by simp) (ld _)) (by omega);refine ownsRow_setCell_below ?_ (by simp) _;have h:=xC [.int .i64 g,.bool u,.int .i64 U,.int .i64 J] (i*4) (EU (base':=w.heap.size+1+1+1) Z.out (by simp)) (by rw [aP (ld X)];simp;omega);rw [Cr (ld X) rfl (by simpa using hi)] at h;rw [List.map_set];exact h
 ·exact ((((((((KM _ _).alloc (KY _) _).alloc Zs _).alloc Zs _).trans (Y.mono Zs)).setCell Zs _).setCell Zs _).setCell Zs _).setCell Zs _ |>.setCell Zs _
def yZ (w:World) (Y:List Sl) (code:Int) (e:Ending) (w':World):Prop:=∃ v,e=.returned (.tuple #[.agg #[v],.int .i64 code])/\aN w.heap.size w' 4 v (Y.map Sl.cells)/\Below w.heap.size w w'
def wB (X:List Sl) (z E:Int) (h:List Sl) (code:Int):Prop:=∃ o c,oY X z E o c/\((c≠0/\h=[]/\code=c)\/(c=0/\∃ i:Nat,i<X.length/\z=i/\(0<=o.gen/\o.gen<=1048575)/\h=X.set i ⟨o.gen+1,false,0,0⟩/\code=0))
theorem yY {X:List Sl} {I J:Int} {o:Sl} (h:oY X I J o 0):X.length<=40/\∃ i:Nat,i<X.length/\I=i/\o=X.getD i Sl.zero/\o.used=true/\dB o:=by
 rcases h with ⟨_,_,h⟩|⟨_,_,_,h⟩|⟨E,i,z,K,⟨U,_,rfl,_⟩|⟨_,_,h⟩⟩
 ·omega
 ·omega
 ·refine ⟨E.2.1,i,z,K,rfl,U,E.2.2 _ ?_⟩;simp only [List.getD,Lj z,LI];exact Lp _
 ·omega
theorem Cx (X Y:List Sl) (sl gn:Int) (code:Int) (v:Value) (w:World) (r:aK w 4 v (X.map Sl.cells)) (h:wB X sl gn Y code):Calls prog 125 #[.agg #[v],.agg #[.int .i64 sl,.int .i64 gn]] w (yZ w Y code):=by
 have R:=KL r;obtain ⟨a,c,rfl,_⟩:=ap r;clear r;obtain ⟨o,cc,hg,h⟩:=h;have G:=KL hg;rcases h with ⟨hc,rfl,rfl⟩|⟨rfl,i,hi,rfl,⟨g1,g2⟩,rfl,rfl⟩
 ·have hc':(code == 0)=false:=by simpa using hc
  have hc2:(code != 0)=true:=by simpa using hc
  clear hg hc;obtain ⟨g,u,ky,bb⟩:=o;go_in;go_wp2_with fail;refine (ge X sl gn _ code _ _ (ai (ai (ai R.out _) _) _) G.out).mono ?_;rintro e w1 ⟨rfl,hb1⟩;obtain ⟨hc1,hf1⟩:=aX hb1;have hz1:=fX hb1;have hy1:=hb1.size;simp at hy1;(try have kw1_0:w.heap.size<w1.heap.size:=by omega);(try have kw1_1:w.heap.size+1<w1.heap.size:=by omega);(try have kw1_2:w.heap.size+1+1<w1.heap.size:=by omega);go_wp2;refine LN (v:=.tuple #[.agg #[.slice none 0 0],.int .i64 code]) ?_ rfl ⟨_,rfl,bH _ _ _,Zb⟩;simp [results,results125,go_sem, *]
 ·have hl:=(yY hg).1;have HI:=KL hi;clear hg hi;obtain ⟨g,u,ky,bb⟩:=o;simp only at g1 g2;go_in;go_wp2_with fail;refine (ge X i gn _ 0 _ _ (ai (ai (ai R.out _) _) _) G.out).mono ?_;rintro e w1 ⟨rfl,hb1⟩;have R1:=KL (ai (aq (ai (ai (ai R.out (.cells #[.slice a X.length c] 40)) (.cells #[.int .i64 i,.int .i64 gn] 111)) (.cells #[.slice none 0 0] 40)) hb1) (.cells #[.int .i64 g,.bool u,.int .i64 ky,.int .i64 bb] 167));obtain ⟨hc1,hf1⟩:=aX hb1;have hz1:=fX hb1;have hy1:=hb1.size;simp at hy1;(try have kw1_0:w.heap.size<w1.heap.size:=by omega);(try have kw1_1:w.heap.size+1<w1.heap.size:=by omega);(try have kw1_2:w.heap.size+1+1<w1.heap.size:=by omega);go_wp2_with fail;refine (oF _ X i (g+1) false 0 0 _ R1.out hl HI.out).mono ?_;rintro e w2 ⟨v2,rfl,R2,hb2⟩;obtain ⟨a2,c2,rfl,_⟩:=ap R2.1;obtain ⟨hc2,hf2⟩:=aX hb2;have hz2:=fX hb2;have hy2:=hb2.size;simp at hy2;(try have kw2_0:w.heap.size<w2.heap.size:=by omega);(try have kw2_1:w.heap.size+1<w2.heap.size:=by omega);(try have kw2_2:w.heap.size+1+1<w2.heap.size:=by omega)
  have R3:Hid (aN w1.heap.size w2 4 (.slice a2 X.length c2) ((X.set i ⟨g+1,false,0,0⟩).map Sl.cells)):=by have h:=R2;simp only [Lq] at h;exact aJ h (by simp)
  clear R2;go_wp2;refine LN (v:=.tuple #[.agg #[.slice a2 X.length c2],.int .i64 0]) ?_ rfl ⟨_,rfl,(by refine aJ (B:=w1.heap.size) ?_ Zs;repeat (first|(with_reducible exact R3.out)|(with_reducible refine aD ?_ Zs _)|(with_reducible refine cX ?_ _)|(with_reducible refine dY ?_ _))),Zb⟩;simp [results,results125,go_sem, *]
def vT (X:List Sl) (z E b:Int) (h:List Sl) (code:Int):Prop:=∃ o c,oY X z E o c/\((c≠0/\h=[]/\code=c)\/(c=0/\(b<0\/(0<=b/\12<=b))/\h=[]/\code=2)\/(c=0/\0<=b/\b<=11/\∃ i:Nat,i<X.length/\z=i/\o.used=true/\h=X.set i ⟨o.gen,true,o.key,b⟩/\code=0))
theorem Cv (X Y:List Sl) (sl gn b:Int) (code:Int) (v:Value) (w:World) (r:aK w 4 v (X.map Sl.cells)) (h:vT X sl gn b Y code):Calls prog 127 #[.agg #[v],.agg #[.int .i64 sl,.int .i64 gn],.int .i64 b] w (yZ w Y code):=by
 have R:=KL r;obtain ⟨a,c,rfl,_⟩:=ap r;clear r;obtain ⟨o,cc,hg,h⟩:=h;have G:=KL hg;rcases h with ⟨hc,rfl,rfl⟩|⟨rfl,hb,rfl,rfl⟩|⟨rfl,b1,b2,i,hi,rfl,hu,rfl,rfl⟩
 ·have hc':(code == 0)=false:=by simpa using hc
  have hc2:(code != 0)=true:=by simpa using hc
  clear hg hc;obtain ⟨g,u,ky,bb⟩:=o;go_in;go_wp2_with fail;refine (ge X sl gn _ code _ _ (ai (ai (ai R.out _) _) _) G.out).mono ?_;rintro e w1 ⟨rfl,hb1⟩;obtain ⟨hc1,hf1⟩:=aX hb1;have hz1:=fX hb1;have hy1:=hb1.size;simp at hy1;(try have kw1_0:w.heap.size<w1.heap.size:=by omega);(try have kw1_1:w.heap.size+1<w1.heap.size:=by omega);(try have kw1_2:w.heap.size+1+1<w1.heap.size:=by omega);go_wp2;refine LN (v:=.tuple #[.agg #[.slice none 0 0],.int .i64 code]) ?_ rfl ⟨_,rfl,bH _ _ _,Zb⟩;simp [results,results127,go_sem, *]
 ·clear hg;obtain ⟨g,u,ky,bb⟩:=o;rcases hb with hb|⟨hb,hb'⟩
  all_goals
   go_in
   go_wp2_with fail
   refine (ge X sl gn _ 0 _ _ (ai (ai (ai R.out _) _) _) G.out).mono ?_
   rintro e w1 ⟨rfl,hb1⟩
   obtain ⟨hc1,hf1⟩:=aX hb1
   have hz1:=fX hb1
   have hy1:=hb1.size
   simp at hy1
   (try have kw1_0:w.heap.size<w1.heap.size:=by omega);(try have kw1_1:w.heap.size+1<w1.heap.size:=by omega);(try have kw1_2:w.heap.size+1+1<w1.heap.size:=by omega)
   go_wp2_with fail
   refine LN (v:=.tuple #[.agg #[.slice none 0 0],.int .i64 2]) ?_ rfl ⟨_,rfl,bH _ _ _,Zb⟩
   simp [results,results127,go_sem, *]
 ·have hl:=(yY hg).1;have HI:=KL hi;have b3:b<12:=by omega
  clear hg hi;obtain ⟨g,u,ky,bb⟩:=o;obtain rfl:u=true:=by assumption
  go_in;go_wp2_with fail;refine (ge X i gn _ 0 _ _ (ai (ai (ai R.out _) _) _) G.out).mono ?_;rintro e w1 ⟨rfl,hb1⟩;have R1:∀ bb,Hid (aK _ 4 (.slice a X.length c) (X.map Sl.cells)):=fun bb=>ai (aq (ai (ai (ai R.out (.cells #[.slice a X.length c] 40)) (.cells #[.int .i64 i,.int .i64 gn] 111)) (.cells #[.slice none 0 0] 40)) hb1) (.cells #[.int .i64 g,.bool true,.int .i64 ky,.int .i64 bb] 167);obtain ⟨hc1,hf1⟩:=aX hb1;have hz1:=fX hb1;have hy1:=hb1.size;simp at hy1;(try have kw1_0:w.heap.size<w1.heap.size:=by omega);(try have kw1_1:w.heap.size+1<w1.heap.size:=by omega);(try have kw1_2:w.heap.size+1+1<w1.heap.size:=by omega);go_wp2_with fail;refine (oF _ X i g true ky b _ (R1 _).out hl HI.out).mono ?_;rintro e w2 ⟨v2,rfl,R2,hb2⟩;obtain ⟨a2,c2,rfl,_⟩:=ap R2.1;obtain ⟨hc2,hf2⟩:=aX hb2;have hz2:=fX hb2;have hy2:=hb2.size;simp at hy2;(try have kw2_0:w.heap.size<w2.heap.size:=by omega);(try have kw2_1:w.heap.size+1<w2.heap.size:=by omega);(try have kw2_2:w.heap.size+1+1<w2.heap.size:=by omega)
  have R3:Hid (aN w1.heap.size w2 4 (.slice a2 X.length c2) ((X.set i ⟨g,true,ky,b⟩).map Sl.cells)):=by have h:=R2;simp only [Lq] at h;exact aJ h (by simp)
  clear R2;go_wp2;refine LN (v:=.tuple #[.agg #[.slice a2 X.length c2],.int .i64 0]) ?_ rfl ⟨_,rfl,(by refine aJ (B:=w1.heap.size) ?_ Zs;repeat (first|(with_reducible exact R3.out)|(with_reducible refine aD ?_ Zs _)|(with_reducible refine cX ?_ _)|(with_reducible refine dY ?_ _))),Zb⟩;simp [results,results127,go_sem, *]
def JY (w:World) (Y:List Sl) (h:Hd) (code:Int) (e:Ending) (w':World):Prop:=∃ v,e=.returned (.tuple #[.agg #[v],.agg #[.int .i64 h.slot,.int .i64 h.gen],.int .i64 code])/\aN w.heap.size w' 4 v (Y.map Sl.cells)/\Below w.heap.size w w'
def fv (x:Sl):Bool:=!x.used && decide (x.gen<1048576)
theorem Hq (x:Sl) (w:World):Calls prog 103 #[Sl.agg x] w fun e w'=>e=.returned (.bool (fv x))/\Below w.heap.size w w':=by
 obtain ⟨z,E,K,I⟩:=x;unfold fv Sl.agg
 cases E with
 | true=>
  go_in;go_wp2
  all_goals exact Zf
 | false=>
  by_cases h:z<1048576
  ·have HD:=KL h;go_in;exact Q135
  ·have J:decide (z<1048576)=false:=by simpa using h
   have HD:=KL h;clear h;go_in;exact Q131
theorem sX:∀ args w,(callFunc 103 args).run prog w=.ok (.enter 103 args) w:=fun _ _=>by kernel_rfl
theorem xt (v:Value) (X:List Sl) (i:Nat) (I z:Int) (w:World) (r:aK w 4 v (X.map Sl.cells)) (h:dR X) (k1:0<=I) (k2:I<=4294967295) (b1:0<=z) (b2:z<=11) (Y:i<X.length) (hf:aU fv X=i) :
  Calls prog 65 #[.agg #[v],.int .i64 I,.int .i64 z] w (JY w (X.set i ⟨(X.getD i Sl.zero).gen,true,I,z⟩) ⟨i,(X.getD i Sl.zero).gen⟩ 0):=by
 have R:=KL r
 have H:=KL h
 have HF:=KL hf
 have hl:X.length<=40:=h.2.1
 obtain ⟨a,c,rfl,l,m,n,p⟩:=aO Sl.zero r
 obtain ⟨E,o0,rfl,a5,q⟩:=p (by intro hX;rw [hX] at Y;simp at Y)
 have af:(i:Int)<(X.length:Int):=by omega
 obtain ⟨Z,hs⟩:∃ Z,Z=X.getD i Sl.zero:=⟨_,rfl⟩
 rw [<- hs]
 have a0:w.cell? ⟨E,o0+i*4,none⟩=some (.int .i64 Z.gen):=by rw [hs];exact q i 0 Y (by omega)
 have b3:z<12:=by omega
 have a6:E<w.heap.size+1:=by omega
 have W:E<w.heap.size+1+1:=by omega
 have a7:E<w.heap.size+1+1+1:=by omega
 obtain ⟨g,u0,k0,a4⟩:=Z
 simp only at a0 ⊢
 clear r h hf hs q p l m n
 go_in
 go_wp2_with (go_at_call 47;refine (fp _ X _ (ai (ai (ai R.out _) _) _) H.out).mono ?_;rintro e w1 ⟨rfl,J⟩;obtain ⟨a8,ab⟩:=aX J;have al:=fX J;have a2:=J.size;(try simp at a2))
 (try have ao:w.heap.size<w1.heap.size:=by omega);(try have ar:w.heap.size+1<w1.heap.size:=by omega);(try have au:w.heap.size+1+1<w1.heap.size:=by omega)
 refine (xQ _ #[] sX fv _ X _ (aq (ai (ai (ai R.out _) _) _) J) (by omega) (fun x _ w' _=>Hq x w')).mono ?_
 rintro e K ⟨rfl,U⟩
 obtain ⟨a9,ac⟩:=aX U
 have am:=fX U
 have ag:=U.size
 (try have av:w.heap.size<K.heap.size:=by omega);(try have aw:w.heap.size+1<K.heap.size:=by omega);(try have ax:w.heap.size+1+1<K.heap.size:=by omega)
 have l0:E<w1.heap.size:=by omega
 rw [HF.out]
 have R2:=KL (aq (aq (ai (ai (ai R.out (.cells #[.slice (some ⟨E,o0,none⟩) X.length c] 40)) (.cells #[.slice none 0 0] 40)) (.cells #[.int .i64 0,.int .i64 0] 111)) J) U)
 go_wp2_with fail
 refine (oF _ X i g true I z _ R2.out hl Y).mono ?_
 rintro e w3 ⟨v3,rfl,R3,W⟩
 obtain ⟨a3,c3,rfl,_⟩:=ap R3.1
 obtain ⟨aa,ad⟩:=aX W
 have an:=fX W
 have ak:=W.size
 (try have ay:w.heap.size<w3.heap.size:=by omega);(try have aA:w.heap.size+1<w3.heap.size:=by omega);(try have aF:w.heap.size+1+1<w3.heap.size:=by omega)
 have a1:Hid (aN K.heap.size w3 4 (.slice a3 X.length c3) ((X.set i ⟨g,true,I,z⟩).map Sl.cells)):=by have h:=R3;simp only [Lq] at h;exact h
 clear R3
 go_wp2
 refine LN (v:=.tuple #[.agg #[.slice a3 X.length c3],.agg #[.int .i64 i,.int .i64 g],.int .i64 0]) ?_ rfl ⟨_,rfl,?_,Zb⟩
 ·simp [results,results65,go_sem, *]
 ·exact (by refine aJ (B:=K.heap.size) ?_ Zs;repeat (first|(with_reducible exact a1.out)|(with_reducible refine aD ?_ Zs _)|(with_reducible refine cX ?_ _)|(with_reducible refine dY ?_ _)))
end
end Go.Proofs.YtennppmadmgfoaaGreatDoor
