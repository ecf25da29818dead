/- Texts of the row's proof. Conditions: none. -/
import Derived.Test.YtfliffgmeobclaaGreatK08
import Derived.Test.YtfliffgmeobclaaGreatK09
namespace Go.Proofs.YtfliffgmeobclaaGreat
set_option maxRecDepth 100000
set_option maxHeartbeats 8000000
section
open Go.RowKit
theorem Q49 {p:Prop} (h:p:=by
 have h1:=h.o1
 have e:n=L.length:=by
  rcases h1.2 with ⟨e,_⟩|⟨_,_,_,e,_⟩
  ·cases e
  ·simp only [Value.slice.injEq] at e;exact e.2.1
 subst e;refine ⟨?_,h1.frozenAt _⟩
 have hl:i*6+j<L.length*6:=by have:(i+1)*6≤L.length*6:=Ij _ (by omega);omega
 rw [h1.cellAt _ hl,fo (j5 L) i j (by simpa using hi) hj];simp [List.getD,hi]):p:=h
theorem Q132 {p:Prop} (h:p:=by
 rcases h.o1.2 with ⟨_,h0⟩|⟨gg,cap,cur,e,h1,h2,_⟩
 ·omega
 ·exact ⟨gg,cap,e,h1,h.l1 gg (by rw [e];rfl)⟩):p:=h
theorem Q144 {p:Prop} (h:p:=by
 go_wp2
 all_goals first|(go_ret;exact ⟨rB (by first|rfl|(simp;have:=HD.out;omega)),Zb⟩)|exact Zx):p:=h
theorem Q148 {p:Prop} (h:p:=by
 go_wp2
 all_goals first|(go_ret;exact ⟨rB (by first|rfl|(simp;exact HD.out)),Zb⟩)|exact Zx):p:=h
theorem Q152 {p:Prop} (h:p:=by
 go_wp2
 all_goals first|(go_ret;exact ⟨congrArg Ending.returned HV.out.symm,Zb⟩)|exact Zx):p:=h
structure BkAt (B:Nat) (w:World) (p:Nat) (v1 v2:Value) (L:List Lf) (R:List Rq):Prop where
 hB:B≤p
 hh:w.heap[p]?=some (.cells #[v1,v2] 223 (0,0))
 o1:w.ownsRow B 94 6 v1 L.length (L.map Lf.cells).flatten
 o2:w.ownsRow B 148 5 v2 R.length (R.map Rq.cells).flatten
 l1:∀ b,v1.ownBlock=some b→b<p
 l2:∀ b,v2.ownBlock=some b→b<p
 dis:∀ b,v1.ownBlock=some b→v2.ownBlock≠some b
theorem BkAt.lt {B:Nat} {w:World} {p:Nat} {v1 v2:Value} {L:List Lf} {R:List Rq} (h:BkAt B w p v1 v2 L R):p<w.heap.size:=lt_of_block h.hh
theorem BkAt.below {B:Nat} {w w':World} {p:Nat} {v1 v2:Value} {L:List Lf} {R:List Rq} (h:BkAt B w p v1 v2 L R) (hb:Below w.heap.size w w'):BkAt B w' p v1 v2 L R:=
 ⟨h.hB,aj hb h.hh h.lt,bA h.o1 hb,bA h.o2 hb,h.l1,h.l2,h.dis⟩
theorem BkAt.r1 {B:Nat} {w:World} {p:Nat} {v1 v2:Value} {L:List Lf} {R:List Rq} (h:BkAt B w p v1 v2 L R):aM B w 6 v1 (L.map Lf.cells):=aD h.o1 (by simp) (j5 L)
theorem BkAt.r2 {B:Nat} {w:World} {p:Nat} {v1 v2:Value} {L:List Lf} {R:List Rq} (h:BkAt B w p v1 v2 L R):aM B w 5 v2 (R.map Rq.cells):=aD h.o2 (by simp) (mz R)
theorem j6 {w:World} {sz:Nat} {v:Value} {L:List (List Value)} (h:aI w sz v L):aI w.drew sz v L:=dD h 1
theorem BkAt.addr {B:Nat} {w:World} {p:Nat} {v1 v2:Value} {L:List Lf} {R:List Rq} (h:BkAt B w p v1 v2 L R) {i:Nat} (hi:i<L.length):∃ g cap,v1=.slice (some ⟨g,0,none⟩) L.length cap∧B≤g∧g<p:=by
 exact Q132
theorem BkAt.cell {B:Nat} {w:World} {p g n cap:Nat} {v2:Value} {L:List Lf} {R:List Rq} (h:BkAt B w p (.slice (some ⟨g,0,none⟩) n cap) v2 L R) {i j:Nat} (hi:i<L.length) (hj:j<6):w.cell? ⟨g,i*6+j,none⟩=((L.getD i Lf.zero).cells)[j]?∧w.frozen? ⟨g,i*6+j,none⟩=false:=by
 exact Q49
def OpBad (w:World) (e:Ending) (w':World):Prop:=e=.returned (.tuple #[.pointer none,.int .i64 6])∧Below w.heap.size w w'
def OpPost (w:World) (L:List Lf) (R:List Rq) (e:Ending) (w':World):Prop:=∃ p v1 v2,e=.returned (.tuple #[.pointer (some ⟨p,0,none⟩),.int .i64 0])∧BkAt w.heap.size w' p v1 v2 L R∧Below w.heap.size w w'
theorem gJ (vl vr:Value) (L:List Lf) (R:List Rq) (w:World) (hl:aI w 6 vl (L.map Lf.cells)) (hr:aI w 5 vr (R.map Rq.cells)) (h:¬ bF L R):Calls Tryz.prog 104 #[.agg #[vl,vr]] w (OpBad w):=by
 have HC:Hid (yQ L R 6):=Or.inr ⟨h,rfl⟩;have HL:=Hu hl;have HR:=Hu hr;obtain ⟨a,c,rfl,_⟩:=aq hl;obtain ⟨a',c',rfl,_⟩:=aq hr;clear hl hr h;go_enter Tryz.func104,Tryz.ntmps104;go_wp2_with fail;refine (kh _ _ L R 6 _ (ai HL.out _) (ai HR.out _) HC.out).mono ?_;rintro e w1 ⟨rfl,hb1⟩;obtain ⟨hc1,hf1⟩:=aV hb1;go_wp2;refine Ix (v:=.tuple #[.pointer none,.int .i64 6]) ?_ rfl ⟨rfl,Zb⟩;simp [results,Tryz.results104,go_sem, *]
theorem mt {w:World} {B e sz n:Nat} {v:Value} {cs:List Value} (h:w.ownsRow B e sz v n cs):∀ b,v.ownBlock=some b→B≤b∧b<w.heap.size:=fun b hb=>h.lt b hb
theorem cP (vl vr:Value) (L:List Lf) (R:List Rq) (w:World) (hl:aI w 6 vl (L.map Lf.cells)) (hr:aI w 5 vr (R.map Rq.cells)) (h:bF L R):Calls Tryz.prog 104 #[.agg #[vl,vr]] w (OpPost w L R):=by
 have HC:Hid (yQ L R 0):=Or.inl ⟨h,rfl⟩;have HL:=Hu hl;have HR:=Hu hr
 have n1:L.length*48≤140737488351232:=by have:=h.1;omega
 have n2:R.length*40≤140737488351232:=by have:=h.2.1;omega
 obtain ⟨a,c,rfl,_⟩:=aq hl;obtain ⟨a',c',rfl,_⟩:=aq hr;clear hl hr h;go_enter Tryz.func104,Tryz.ntmps104;go_wp2_with fail;refine (kh _ _ L R 0 _ (ai HL.out _) (ai HR.out _) HC.out).mono ?_;rintro e w1 ⟨rfl,hb1⟩;have e0:w1.cell? ⟨w.heap.size,0,none⟩=some (.slice a L.length c):=aA hb1 (by go_simp);have e1:w1.cell? ⟨w.heap.size,1,none⟩=some (.slice a' R.length c'):=aA hb1 (by go_simp);have B1:=Hu (((Hv w.heap.size w).alloc (I3 _) _).trans (hb1.mono (by simp)));have R1:=Hu (au HL.out B1.out);have R2:=Hu (au HR.out B1.out);have s1:=hb1.size;simp at s1;clear hb1;go_wp2_with fail;refine Zr ((fun w'=>w'.cell? ⟨w.heap.size,0,none⟩=some (.slice a L.length c)∧w'.cell? ⟨w.heap.size,1,none⟩=some (.slice a' R.length c'))) (fun hHeld=>?_);refine df 0 ?_;refine df 3 ?_;refine Z1 2 (fun K hK=>?_);go_simp;(first|(go_at_call 52;refine (uh _ L _ (j6 R1.out) n1).mono ?_;rintro e w2 ⟨v1,rfl,o1,hb2⟩;obtain ⟨x1,y1,rfl,_⟩:=aC o1)|(go_at_call 53;refine (ug _ R _ (au (j6 R2.out) hb2) n2).mono ?_;rintro e w3 ⟨v2,rfl,o2,hb3⟩;obtain ⟨x2,y2,rfl,_⟩:=aC o2));(try go_wp2_with fail);refine Zk hK fun hHeld=>?_;clear hK K;refine Z1 5 (fun K hK=>?_);go_simp;(first|(go_at_call 52;refine (uh _ L _ (j6 R1.out) n1).mono ?_;rintro e w2 ⟨v1,rfl,o1,hb2⟩;obtain ⟨x1,y1,rfl,_⟩:=aC o1)|(go_at_call 53;refine (ug _ R _ (au (j6 R2.out) hb2) n2).mono ?_;rintro e w3 ⟨v2,rfl,o2,hb3⟩;obtain ⟨x2,y2,rfl,_⟩:=aC o2));(try go_wp2_with fail);refine Zk hK fun hHeld=>?_;clear hK K;refine df 6 ?_;refine Z1 8 (fun K hK=>?_);go_simp;refine Zk hK fun hHeld=>?_;clear hK K;refine df 9 ?_;refine Zd ?_;have O1:=mt o1;have O2:=mt o2;have s2:=hb2.size;have s3:=hb3.size;simp at s2 O1;have K:=Hu (BkAt.mk (B:=w.heap.size) (w:=w3.alloc (.cells #[.slice x1 L.length y1,.slice x2 R.length y2] 223)) (p:=w3.heap.size) (v1:=.slice x1 L.length y1) (v2:=.slice x2 R.length y2) (L:=L) (R:=R) (by omega) (az _ rfl) (bA (bA (qm o1 (by simp;omega)) hb3) ((Hv _ _).alloc (I3 _) _)) (bA (qm o2 (by omega)) ((Hv _ _).alloc (I3 _) _)) (fun b hb=>by have:=O1 b hb;omega) (fun b hb=>by have:=O2 b hb;omega) (fun b hb hb2=>by have:=O1 b hb;have:=O2 b hb2;omega));have B3:Hid (Below w.heap.size w (w3.alloc (.cells #[.slice x1 L.length y1,.slice x2 R.length y2] 223))):=(((B1.out.trans ((Hx (Hv _ _)))).trans (hb2.mono (by simp;omega))).trans (hb3.mono (by omega))).alloc (by omega) _;clear o1 o2 hb2 hb3 O1 O2;go_wp2;refine Ix (v:=.tuple #[.pointer (some ⟨w3.heap.size,0,none⟩),.int .i64 0]) ?_ rfl ⟨_,_,_,rfl,K.out,B3.out⟩;simp [results,Tryz.results104,go_sem, *]
theorem Hf (x:Lf) (b:Nat) (backend:Int) (w:World) (h:w.cell? ⟨b,0,none⟩=some (.int .i64 backend)):Calls Tryz.prog 148 #[Lf.agg x,.pointer (some ⟨b,0,none⟩)] w fun e w'=>e=.returned (.bool (x.backend == backend))∧Below w.heap.size w w':=by
 obtain ⟨bk,st,wt,si,un,rq⟩:=x;have lb:=bR h;unfold Lf.agg;go_enter Tryz.func148,Tryz.ntmps148;go_wp2
 all_goals first|(go_ret;exact ⟨rfl,Zb⟩)|exact Zx
def jR (v:Value) (i:Int):Value:=match v with
 | .slice (some a) _ _=>if i<0 then .pointer none else .pointer (some ⟨a.block,i.toNat*6,none⟩)
 | _=>.pointer none
def cE (b:Int) (x:Lf):Bool:=x.backend == b
theorem dP (B p:Nat) (v1 v2:Value) (L:List Lf) (R:List Rq) (backend:Int) (w:World) (h:BkAt B w p v1 v2 L R) (hn:L.length≤12) :
  Calls Tryz.prog 114 #[.pointer (some ⟨p,0,none⟩),.int .i64 backend] w fun e w'=>e=.returned (jR v1 (aQ (cE backend) L))∧Below w.heap.size w w':=by
 have c0:=ae h.hh 0
 simp at c0
 have lp:=h.lt
 have RR:=Hu h.r1.1
 have HAd:=fun {i:Nat} (hi:i<L.length)=>h.addr hi
 obtain ⟨a,cap,rfl,_⟩:=aC h.o1
 clear h
 rcases bJ (cE backend) L Lf.zero with ⟨hi,_⟩|⟨i,hi,he,_⟩
 ·have hV:jR (.slice a L.length cap) (aQ (cE backend) L)=.pointer none:=by rw [hi];cases a<;>simp [jR]
  have HV:=Hu hV;have HI:=Hu hi;clear hi hV HAd;go_enter Tryz.func114,Tryz.ntmps114;go_wp2_with fail;refine (sw 148 ⟨w.heap.size,0,none⟩ (fun _ _=>rfl) (cE backend) _ L _ (ai RR.out _) (by omega) (fun x _ w' hb'=>Hf x _ backend w' (aA hb' (by go_simp)))).mono ?_;rintro e w1 ⟨rfl,hb1⟩;rw [HI.out];obtain ⟨hc1,hf1⟩:=aV hb1;exact Q152
 ·obtain ⟨g,cap',hg,_⟩:=HAd hi;simp only [Value.slice.injEq] at hg;obtain ⟨rfl,_,rfl⟩:=hg;clear HAd
  have hV:jR (.slice (some ⟨g,0,none⟩) L.length cap) (aQ (cE backend) L)=.pointer (some ⟨g,i*6,none⟩):=by rw [he];simp [jR]
  have HV:=Hu hV;have HI:=Hu he;have hi':(i:Int)<(L.length:Int):=by omega
  have p0:(0:Int)≤(i:Int):=by omega
  clear he hV;go_enter Tryz.func114,Tryz.ntmps114;go_wp2_with fail;refine (sw 148 ⟨w.heap.size,0,none⟩ (fun _ _=>rfl) (cE backend) _ L _ (ai RR.out _) (by omega) (fun x _ w' hb'=>Hf x _ backend w' (aA hb' (by go_simp)))).mono ?_;rintro e w1 ⟨rfl,hb1⟩;rw [HI.out];obtain ⟨hc1,hf1⟩:=aV hb1;have hz1:=fQ hb1;exact Q152
def Em (w:World) (X:List Sl) (e:Ending) (w':World):Prop:=∃ v,e=.returned (.agg #[v])∧aM w.heap.size w' 4 v (X.map Sl.cells)∧Below w.heap.size w w'
theorem ny (v:Value) (X:List Sl) (i:Nat) (g:Int) (u:Bool) (ky bb:Int) (w:World) (r:aI w 4 v (X.map Sl.cells)) (hn:X.length≤40) (hi:i<X.length) :
  Calls Tryz.prog 100 #[.agg #[v],.int .i64 i,.agg #[.int .i64 g,.bool u,.int .i64 ky,.int .i64 bb]] w (Em w (X.set i ⟨g,u,ky,bb⟩)):=by
 have R:=Hu r
 obtain ⟨a,c,rfl,_⟩:=aq r
 have hi':(i:Int)<(X.length:Int):=by omega
 clear r
 go_enter Tryz.func100,Tryz.ntmps100
 go_wp2_with fail
 refine (zH _ X _ (ai (ai (ai R.out _) _) _) (by omega)).mono ?_
 rintro e w1 ⟨v1,rfl,hown,hb1⟩
 have hX:0<X.length:=by omega
 have O:=Hu hown
 obtain ⟨gg,cap,cur,rfl,hgg,hcc⟩:∃ gg cap cur,v1=.slice (some ⟨gg,0,none⟩) X.length cap∧((w.alloc (.cells #[.slice a X.length c] 47)).alloc (.cells #[.int .i64 g,.bool u,.int .i64 ky,.int .i64 bb] 143) |>.alloc (.cells #[.slice none 0 0] 47)).heap.size≤gg∧w1.heap[gg]?=some (.cells cur 143 (0,0)):=by
  rcases hown.2 with ⟨_,h0⟩|⟨gg,cap,cur,e,h1,h2,_⟩
  ·omega
  ·exact ⟨gg,cap,cur,e,h1,h2⟩
 obtain ⟨hc1,hf1⟩:=aV hb1
 have hz1:=fQ hb1
 have hy1:=hb1.size
 simp at hy1 hgg
 have q:∀ j,j<4→w1.cell? ⟨gg,i*4+j,none⟩=((X.getD i Sl.zero).cells)[j]?∧w1.frozen? ⟨gg,i*4+j,none⟩=false:=by
  intro j hj;refine ⟨?_,O.out.frozenAt _⟩;rw [O.out.cellAt _ (by omega),fo (kM X) i j (by simpa using hi) hj];simp [List.getD,hi]
 generalize hs:(X.getD i Sl.zero)=s at q
 obtain ⟨t0,t1,t2,t3⟩:=s
 have q0:=q 0 (by omega)
 have q1:=q 1 (by omega)
 have q2:=q 2 (by omega)
 have q3:=q 3 (by omega)
 simp only [Sl.cells,I5,I6,Nat.add_zero] at q0 q1 q2 q3
 obtain ⟨q00,q01⟩:=q0
 obtain ⟨q10,q11⟩:=q1
 obtain ⟨q20,q21⟩:=q2
 obtain ⟨q30,q31⟩:=q3
 clear q hs hown
 go_wp2
 refine Ix (v:=.agg #[.slice (some ⟨gg,0,none⟩) X.length cap]) ?_ rfl ⟨_,rfl,?_,?_⟩
 ·simp [results,Tryz.results100,go_sem, *]
 ·refine aG (aD (base:=w.heap.size+1+1+1) (e:=143) (n:=X.length) (L:=(X.set i ⟨g,u,ky,bb⟩).map Sl.cells) ?_ (by simp) (kM _)) (by omega);refine ownsRow_setCell_below ?_ (by simp) _;have h:=vu [.int .i64 g,.bool u,.int .i64 ky,.int .i64 bb] (i*4) (CJ (base':=w.heap.size+1+1+1) O.out (by simp)) (by rw [aO (kM X)];simp;omega);rw [Ap (kM X) rfl (by simpa using hi)] at h;rw [List.map_set];exact h
 ·exact ((((((((Hv _ _).alloc (I3 _) _).alloc Zs _).alloc Zs _).trans (hb1.mono Zs)).setCell Zs _).setCell Zs _).setCell Zs _).setCell Zs _ |>.setCell Zs _
def xy (w:World) (Y:List Sl) (code:Int) (e:Ending) (w':World):Prop:=∃ v,e=.returned (.tuple #[.agg #[v],.int .i64 code])∧aM w.heap.size w' 4 v (Y.map Sl.cells)∧Below w.heap.size w w'
def uC (X:List Sl) (sl gn:Int) (Y:List Sl) (code:Int):Prop:=∃ o c,nT X sl gn o c∧((c≠0∧Y=[]∧code=c)∨(c=0∧∃ i:Nat,i<X.length∧sl=i∧(0≤o.gen∧o.gen≤1048575)∧Y=X.set i ⟨o.gen+1,false,0,0⟩∧code=0))
theorem xu {X:List Sl} {sl gn:Int} {o:Sl} (h:nT X sl gn o 0):X.length≤40∧∃ i:Nat,i<X.length∧sl=i∧o=X.getD i Sl.zero∧o.used=true∧dw o:=by
 rcases h with ⟨_,_,h⟩|⟨_,_,_,h⟩|⟨hm,i,hi,hs,⟨hu,_,rfl,_⟩|⟨_,_,h⟩⟩
 ·omega
 ·omega
 ·refine ⟨hm.2.1,i,hi,hs,rfl,hu,hm.2.2 _ ?_⟩;simp only [List.getD,Ib hi,Iu];exact If _
 ·omega
theorem Av (X Y:List Sl) (sl gn:Int) (code:Int) (v:Value) (w:World) (r:aI w 4 v (X.map Sl.cells)) (h:uC X sl gn Y code):Calls Tryz.prog 121 #[.agg #[v],.agg #[.int .i64 sl,.int .i64 gn]] w (xy w Y code):=by
 have R:=Hu r;obtain ⟨a,c,rfl,_⟩:=aq r;clear r;obtain ⟨o,cc,hg,h⟩:=h;have G:=Hu hg;rcases h with ⟨hc,rfl,rfl⟩|⟨rfl,i,hi,rfl,⟨g1,g2⟩,rfl,rfl⟩
 ·have hc':(code == 0)=false:=by simpa using hc
  have hc2:(code != 0)=true:=by simpa using hc
  clear hg hc;obtain ⟨g,u,ky,bb⟩:=o;go_enter Tryz.func121,Tryz.ntmps121;go_wp2_with fail;refine (fW X sl gn _ code _ _ (ai (ai (ai R.out _) _) _) G.out).mono ?_;rintro e w1 ⟨rfl,hb1⟩;obtain ⟨hc1,hf1⟩:=aV hb1;have hz1:=fQ hb1;have hy1:=hb1.size;simp at hy1;(try have kw1_0:w.heap.size<w1.heap.size:=by omega);(try have kw1_1:w.heap.size+1<w1.heap.size:=by omega);(try have kw1_2:w.heap.size+1+1<w1.heap.size:=by omega);go_wp2;refine Ix (v:=.tuple #[.agg #[.slice none 0 0],.int .i64 code]) ?_ rfl ⟨_,rfl,bD _ _ _,Zb⟩;simp [results,Tryz.results121,go_sem, *]
 ·have hl:=(xu hg).1;have HI:=Hu hi;clear hg hi;obtain ⟨g,u,ky,bb⟩:=o;simp only at g1 g2;go_enter Tryz.func121,Tryz.ntmps121;go_wp2_with fail;refine (fW X i gn _ 0 _ _ (ai (ai (ai R.out _) _) _) G.out).mono ?_;rintro e w1 ⟨rfl,hb1⟩;have R1:=Hu (ai (au (ai (ai (ai R.out (.cells #[.slice a X.length c] 47)) (.cells #[.int .i64 i,.int .i64 gn] 70)) (.cells #[.slice none 0 0] 47)) hb1) (.cells #[.int .i64 g,.bool u,.int .i64 ky,.int .i64 bb] 143));obtain ⟨hc1,hf1⟩:=aV hb1;have hz1:=fQ hb1;have hy1:=hb1.size;simp at hy1;(try have kw1_0:w.heap.size<w1.heap.size:=by omega);(try have kw1_1:w.heap.size+1<w1.heap.size:=by omega);(try have kw1_2:w.heap.size+1+1<w1.heap.size:=by omega);go_wp2_with fail;refine (ny _ X i (g+1) false 0 0 _ R1.out hl HI.out).mono ?_;rintro e w2 ⟨v2,rfl,R2,hb2⟩;obtain ⟨a2,c2,rfl,_⟩:=aq R2.1;obtain ⟨hc2,hf2⟩:=aV hb2;have hz2:=fQ hb2;have hy2:=hb2.size;simp at hy2;(try have kw2_0:w.heap.size<w2.heap.size:=by omega);(try have kw2_1:w.heap.size+1<w2.heap.size:=by omega);(try have kw2_2:w.heap.size+1+1<w2.heap.size:=by omega)
  have R3:Hid (aM w1.heap.size w2 4 (.slice a2 X.length c2) ((X.set i ⟨g+1,false,0,0⟩).map Sl.cells)):=by have h:=R2;simp only [Ig] at h;exact aG h (by simp)
  clear R2;go_wp2;refine Ix (v:=.tuple #[.agg #[.slice a2 X.length c2],.int .i64 0]) ?_ rfl ⟨_,rfl,(by refine aG (B:=w1.heap.size) ?_ Zs;repeat (first|(with_reducible exact R3.out)|(with_reducible refine aB ?_ Zs _)|(with_reducible refine cR ?_ _)|(with_reducible refine dW ?_ _))),Zb⟩;simp [results,Tryz.results121,go_sem, *]
def uv (X:List Sl) (sl gn b:Int) (Y:List Sl) (code:Int):Prop:=∃ o c,nT X sl gn o c∧((c≠0∧Y=[]∧code=c)∨(c=0∧(b<0∨(0≤b∧12≤b))∧Y=[]∧code=2)∨(c=0∧0≤b∧b≤11∧∃ i:Nat,i<X.length∧sl=i∧o.used=true∧Y=X.set i ⟨o.gen,true,o.key,b⟩∧code=0))
theorem At (X Y:List Sl) (sl gn b:Int) (code:Int) (v:Value) (w:World) (r:aI w 4 v (X.map Sl.cells)) (h:uv X sl gn b Y code):Calls Tryz.prog 123 #[.agg #[v],.agg #[.int .i64 sl,.int .i64 gn],.int .i64 b] w (xy w Y code):=by
 have R:=Hu r;obtain ⟨a,c,rfl,_⟩:=aq r;clear r;obtain ⟨o,cc,hg,h⟩:=h;have G:=Hu hg;rcases h with ⟨hc,rfl,rfl⟩|⟨rfl,hb,rfl,rfl⟩|⟨rfl,b1,b2,i,hi,rfl,hu,rfl,rfl⟩
 ·have hc':(code == 0)=false:=by simpa using hc
  have hc2:(code != 0)=true:=by simpa using hc
  clear hg hc;obtain ⟨g,u,ky,bb⟩:=o;go_enter Tryz.func123,Tryz.ntmps123;go_wp2_with fail;refine (fW X sl gn _ code _ _ (ai (ai (ai R.out _) _) _) G.out).mono ?_;rintro e w1 ⟨rfl,hb1⟩;obtain ⟨hc1,hf1⟩:=aV hb1;have hz1:=fQ hb1;have hy1:=hb1.size;simp at hy1;(try have kw1_0:w.heap.size<w1.heap.size:=by omega);(try have kw1_1:w.heap.size+1<w1.heap.size:=by omega);(try have kw1_2:w.heap.size+1+1<w1.heap.size:=by omega);go_wp2;refine Ix (v:=.tuple #[.agg #[.slice none 0 0],.int .i64 code]) ?_ rfl ⟨_,rfl,bD _ _ _,Zb⟩;simp [results,Tryz.results123,go_sem, *]
 ·clear hg;obtain ⟨g,u,ky,bb⟩:=o;rcases hb with hb|⟨hb,hb'⟩
  all_goals
   go_enter Tryz.func123,Tryz.ntmps123
   go_wp2_with fail
   refine (fW X sl gn _ 0 _ _ (ai (ai (ai R.out _) _) _) G.out).mono ?_
   rintro e w1 ⟨rfl,hb1⟩
   obtain ⟨hc1,hf1⟩:=aV hb1
   have hz1:=fQ hb1
   have hy1:=hb1.size
   simp at hy1
   (try have kw1_0:w.heap.size<w1.heap.size:=by omega);(try have kw1_1:w.heap.size+1<w1.heap.size:=by omega);(try have kw1_2:w.heap.size+1+1<w1.heap.size:=by omega)
   go_wp2_with fail
   refine Ix (v:=.tuple #[.agg #[.slice none 0 0],.int .i64 2]) ?_ rfl ⟨_,rfl,bD _ _ _,Zb⟩
   simp [results,Tryz.results123,go_sem, *]
 ·have hl:=(xu hg).1;have HI:=Hu hi;have b3:b<12:=by omega
  clear hg hi;obtain ⟨g,u,ky,bb⟩:=o;obtain rfl:u=true:=by assumption
  go_enter Tryz.func123,Tryz.ntmps123;go_wp2_with fail;refine (fW X i gn _ 0 _ _ (ai (ai (ai R.out _) _) _) G.out).mono ?_;rintro e w1 ⟨rfl,hb1⟩;have R1:∀ bb,Hid (aI _ 4 (.slice a X.length c) (X.map Sl.cells)):=fun bb=>ai (au (ai (ai (ai R.out (.cells #[.slice a X.length c] 47)) (.cells #[.int .i64 i,.int .i64 gn] 70)) (.cells #[.slice none 0 0] 47)) hb1) (.cells #[.int .i64 g,.bool true,.int .i64 ky,.int .i64 bb] 143);obtain ⟨hc1,hf1⟩:=aV hb1;have hz1:=fQ hb1;have hy1:=hb1.size;simp at hy1;(try have kw1_0:w.heap.size<w1.heap.size:=by omega);(try have kw1_1:w.heap.size+1<w1.heap.size:=by omega);(try have kw1_2:w.heap.size+1+1<w1.heap.size:=by omega);go_wp2_with fail;refine (ny _ X i g true ky b _ (R1 _).out hl HI.out).mono ?_;rintro e w2 ⟨v2,rfl,R2,hb2⟩;obtain ⟨a2,c2,rfl,_⟩:=aq R2.1;obtain ⟨hc2,hf2⟩:=aV hb2;have hz2:=fQ hb2;have hy2:=hb2.size;simp at hy2;(try have kw2_0:w.heap.size<w2.heap.size:=by omega);(try have kw2_1:w.heap.size+1<w2.heap.size:=by omega);(try have kw2_2:w.heap.size+1+1<w2.heap.size:=by omega)
  have R3:Hid (aM w1.heap.size w2 4 (.slice a2 X.length c2) ((X.set i ⟨g,true,ky,b⟩).map Sl.cells)):=by have h:=R2;simp only [Ig] at h;exact aG h (by simp)
  clear R2;go_wp2;refine Ix (v:=.tuple #[.agg #[.slice a2 X.length c2],.int .i64 0]) ?_ rfl ⟨_,rfl,(by refine aG (B:=w1.heap.size) ?_ Zs;repeat (first|(with_reducible exact R3.out)|(with_reducible refine aB ?_ Zs _)|(with_reducible refine cR ?_ _)|(with_reducible refine dW ?_ _))),Zb⟩;simp [results,Tryz.results123,go_sem, *]
def GM (w:World) (Y:List Sl) (h:Hd) (code:Int) (e:Ending) (w':World):Prop:=∃ v,e=.returned (.tuple #[.agg #[v],.agg #[.int .i64 h.slot,.int .i64 h.gen],.int .i64 code])∧aM w.heap.size w' 4 v (Y.map Sl.cells)∧Below w.heap.size w w'
def fh (x:Sl):Bool:=!x.used && decide (x.gen<1048576)
theorem Ep (x:Sl) (w:World):Calls Tryz.prog 99 #[Sl.agg x] w fun e w'=>e=.returned (.bool (fh x))∧Below w.heap.size w w':=by
 obtain ⟨g,u,k,b⟩:=x;unfold fh Sl.agg
 cases u with
 | true=>
  go_enter Tryz.func99,Tryz.ntmps99;go_wp2
  all_goals exact Zf
 | false=>
  by_cases h:g<1048576
  ·have HD:=Hu h;go_enter Tryz.func99,Tryz.ntmps99;exact Q148
  ·have hd:decide (g<1048576)=false:=by simpa using h
   have HD:=Hu h;clear h;go_enter Tryz.func99,Tryz.ntmps99;exact Q144
theorem rH:∀ args w,(callFunc 99 args).run Tryz.prog w=.ok (.enter 99 args) w:=fun _ _=>by kernel_rfl
theorem vj (v:Value) (X:List Sl) (i:Nat) (ky bb:Int) (w:World) (r:aI w 4 v (X.map Sl.cells)) (h:dN X) (k1:0≤ky) (k2:ky≤4294967295) (b1:0≤bb) (b2:bb≤11) (hi:i<X.length) (hf:aQ fh X=i) :
  Calls Tryz.prog 61 #[.agg #[v],.int .i64 ky,.int .i64 bb] w (GM w (X.set i ⟨(X.getD i Sl.zero).gen,true,ky,bb⟩) ⟨i,(X.getD i Sl.zero).gen⟩ 0):=by
 have R:=Hu r
 have H:=Hu h
 have HF:=Hu hf
 have hl:X.length≤40:=h.2.1
 obtain ⟨a,c,rfl,l,m,n,p⟩:=aK Sl.zero r
 obtain ⟨b0,o0,rfl,hb0,q⟩:=p (by intro hX;rw [hX] at hi;simp at hi)
 have hi':(i:Int)<(X.length:Int):=by omega
 obtain ⟨s,hs⟩:∃ s,s=X.getD i Sl.zero:=⟨_,rfl⟩
 rw [← hs]
 have a0:w.cell? ⟨b0,o0+i*4,none⟩=some (.int .i64 s.gen):=by rw [hs];exact q i 0 hi (by omega)
 have b3:bb<12:=by omega
 have hb2':b0<w.heap.size+1:=by omega
 have hb3:b0<w.heap.size+1+1:=by omega
 have hb4:b0<w.heap.size+1+1+1:=by omega
 obtain ⟨g,u0,k0,bb0⟩:=s
 simp only at a0 ⊢
 clear r h hf hs q p l m n
 go_enter Tryz.func61,Tryz.ntmps61
 go_wp2_with (go_at_call 41;refine (fc _ X _ (ai (ai (ai R.out _) _) _) H.out).mono ?_;rintro e w1 ⟨rfl,hb1⟩;obtain ⟨hc1,hf1⟩:=aV hb1;have hz1:=fQ hb1;have hy1:=hb1.size;(try simp at hy1))
 (try have kw1_0:w.heap.size<w1.heap.size:=by omega);(try have kw1_1:w.heap.size+1<w1.heap.size:=by omega);(try have kw1_2:w.heap.size+1+1<w1.heap.size:=by omega)
 refine (vJ _ #[] rH fh _ X _ (au (ai (ai (ai R.out _) _) _) hb1) (by omega) (fun x _ w' _=>Ep x w')).mono ?_
 rintro e w2 ⟨rfl,hb2⟩
 obtain ⟨hc2,hf2⟩:=aV hb2
 have hz2:=fQ hb2
 have hy2:=hb2.size
 (try have kw2_0:w.heap.size<w2.heap.size:=by omega);(try have kw2_1:w.heap.size+1<w2.heap.size:=by omega);(try have kw2_2:w.heap.size+1+1<w2.heap.size:=by omega)
 have l0:b0<w1.heap.size:=by omega
 rw [HF.out]
 have R2:=Hu (au (au (ai (ai (ai R.out (.cells #[.slice (some ⟨b0,o0,none⟩) X.length c] 47)) (.cells #[.slice none 0 0] 47)) (.cells #[.int .i64 0,.int .i64 0] 70)) hb1) hb2)
 go_wp2_with fail
 refine (ny _ X i g true ky bb _ R2.out hl hi).mono ?_
 rintro e w3 ⟨v3,rfl,R3,hb3⟩
 obtain ⟨a3,c3,rfl,_⟩:=aq R3.1
 obtain ⟨hc3,hf3⟩:=aV hb3
 have hz3:=fQ hb3
 have hy3:=hb3.size
 (try have kw3_0:w.heap.size<w3.heap.size:=by omega);(try have kw3_1:w.heap.size+1<w3.heap.size:=by omega);(try have kw3_2:w.heap.size+1+1<w3.heap.size:=by omega)
 have R3':Hid (aM w2.heap.size w3 4 (.slice a3 X.length c3) ((X.set i ⟨g,true,ky,bb⟩).map Sl.cells)):=by have h:=R3;simp only [Ig] at h;exact h
 clear R3
 go_wp2
 refine Ix (v:=.tuple #[.agg #[.slice a3 X.length c3],.agg #[.int .i64 i,.int .i64 g],.int .i64 0]) ?_ rfl ⟨_,rfl,?_,Zb⟩
 ·simp [results,Tryz.results61,go_sem, *]
 ·exact (by refine aG (B:=w2.heap.size) ?_ Zs;repeat (first|(with_reducible exact R3'.out)|(with_reducible refine aB ?_ Zs _)|(with_reducible refine cR ?_ _)|(with_reducible refine dW ?_ _)))
end
end Go.Proofs.YtfliffgmeobclaaGreat
