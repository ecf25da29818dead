/- Texts of the row's proof. Conditions: none. -/
import Derived.Test.YtfliffgmeobclaaGreatK26
namespace Go.Proofs.YtfliffgmeobclaaGreat
set_option maxRecDepth 100000
set_option maxHeartbeats 8000000
section
open Go.RowKit
def zZ (id:Int) (t:Tm):Bool:=t.id == id
theorem yT (x:Tm) (b:Nat) (id:Int) (w:World) (h:w.cell? ⟨b,0,none⟩=some (.int .i64 id)):Calls Tryz.prog 131 #[Tm.agg x,.pointer (some ⟨b,0,none⟩)] w fun e w'=>e=.returned (.bool (zZ id x))∧Below w.heap.size w w':=by
 obtain ⟨t0,t1⟩:=x;have lb:=bR h;unfold Tm.agg;go_enter Tryz.func131,Tryz.ntmps131;go_wp2
 all_goals first|(go_ret;exact ⟨rfl,Zb⟩)|exact Zx
def FiPost (w:World) (id:Int) (LL:List (List Tm)) (e:Ending) (w':World):Prop:=
 (e=.returned (.tuple #[.int .i64 (-1),.int .i64 (-1)])∧(∀ m,m<LL.length→∀ t∈LL.getD m [],¬ t.id=id)∧Below w.heap.size w w')∨
 (∃ a b:Nat,e=.returned (.tuple #[.int .i64 a,.int .i64 b])∧a<LL.length∧b<(LL.getD a []).length∧((LL.getD a []).getD b Tm.zero).id=id∧Below w.heap.size w w')
theorem nV (q:Nat) (now:Int) (vl:Value) (id:Int) (LL:List (List Tm)) (w:World) (hq:w.heap[q]?=some (.cells #[.int .i64 now,vl] 203 (0,0))) (r:kY w vl LL) (hs:∀ i,i<LL.length→(LL.getD i []).length≤1048576) :
  Calls Tryz.prog 87 #[.pointer (some ⟨q,0,none⟩),.int .i64 id] w (FiPost w id LL):=by
 obtain ⟨V0,hV0,r1,r2⟩:=r
 have R2:=Hm r2
 have HS:=Hm hs
 obtain ⟨a,cp,rfl,l1,m1,_,p1⟩:=aK (f:=fun x:Value=>[x]) undef r1
 rw [hV0] at l1 p1 hq
 have P1:=Hm p1
 have HV0:=Hm hV0
 have hq0:w.cell? ⟨q,1,none⟩=some (.slice a LL.length cp):=ae hq 1
 have lq:=bR hq0
 unfold maxLen at m1
 clear r1 r2 p1 hV0 hs hq
 go_enter Tryz.func87,Tryz.ntmps87
 go_wp2_with fail
 go_loopw [15] (fun i wr=>∃ k:Nat,k≤LL.length∧i=.int .i64 k∧(∀ m,m<k→∀ t∈LL.getD m [],¬ t.id=id)∧Below w.heap.size w wr∧wr.cell? ⟨w.heap.size,0,none⟩=some (.int .i64 id)) (fun i _=>LL.length - (intOf i).toNat)
 case atStart=>exact ⟨0,Hx _,rfl,by simp,Zb,by go_simp⟩
 case round=>
  obtain ⟨k,hk,rfl,hno,hbel,c0⟩:=hrel;have HN:=Hm hno;have HB:=Hm hbel;clear hno;rcases (show k<LL.length∨k=LL.length by omega) with hlt|rfl
  ·have hlt':(k:Int)<(LL.length:Int):=by omega
   have p0:(0:Int)≤(k:Int):=by omega
   obtain ⟨b1,o1,rfl,hb1,q1⟩:=P1.out (by have:=HV0.out;intro h;rw [h] at this;simp at this;omega);have a0:=ah HB.out (q1 k 0 hlt (by omega)) hb1;have g1:=au (R2.out k hlt) HB.out;have hsk:=HS.out k hlt;simp only [Nat.mul_one,Nat.add_zero] at a0;obtain ⟨xk,hxk⟩:∃ xk,xk=V0.getD k undef:=⟨_,rfl⟩;obtain ⟨A,hA⟩:∃ A,A=LL.getD k []:=⟨_,rfl⟩;have HA:=Hm hA;rw [← hxk] at a0 g1;rw [← hA] at g1 hsk;obtain ⟨ak,ck,rfl,_⟩:=aK Tm.zero g1;have G1:=Hm g1;clear hxk hA g1 q1 hbel;rcases bJ (zZ id) A Tm.zero with ⟨hi,hnn⟩|⟨j,hj,hi,hp,_⟩
   ·have HI:=Hm hi;have HNN:=Hm hnn;clear hi hnn;go_wp2_with (go_at_call 130;refine (sj 131 ⟨w.heap.size,0,none⟩ (fun _ _=>rfl) (zZ id) _ A _ G1.out (by omega) (fun x _ w' hb'=>yT x _ id w' (aA hb' c0))).mono ?_;rintro e w1 ⟨rfl,hb1⟩;rw [HI.out];obtain ⟨hc1,hf1⟩:=aV hb1);go_roundw
    case measure=>simp [intOf];omega
    case rel=>
     refine ⟨k+1,by omega,by go_num,fun m hm t ht=>?_,HB.out.trans (hb1.mono HB.out.size),aA hb1 c0⟩;rcases (show m<k∨m=k by omega) with h|rfl
     ·exact HN.out m h t ht
     ·have:=HNN.out t (by rw [HA.out];exact ht);simpa [zZ] using this
   ·have HI:=Hm hi;have HP:=Hm (show (A.getD j Tm.zero).id=id by simpa [zZ] using hp);have pj:(0:Int)≤(j:Int):=by omega
    clear hi hp;go_wp2_with (go_at_call 130;refine (sj 131 ⟨w.heap.size,0,none⟩ (fun _ _=>rfl) (zZ id) _ A _ G1.out (by omega) (fun x _ w' hb'=>yT x _ id w' (aA hb' c0))).mono ?_;rintro e w1 ⟨rfl,hb1⟩;rw [HI.out];obtain ⟨hc1,hf1⟩:=aV hb1)
    all_goals (go_ret2;exact Or.inr ⟨k,j,rfl,hlt,by rw [← HA.out];exact hj,by rw [← HA.out];exact HP.out,HB.out.trans (hb1.mono HB.out.size)⟩)
  ·have hge:¬ ((LL.length:Nat):Int)<(LL.length:Int):=by omega
   go_wp2_with fail
   all_goals (go_ret2;exact Or.inl ⟨rfl,HN.out,HB.out⟩)
def WhAns (w:World) (now:Int) (LL:List (List Tm)) (c:Int) (e:Ending) (w':World):Prop:=∃ v,e=.returned (.tuple #[.agg #[.int .i64 now,v],.int .i64 c])∧LsNew w.heap.size w' v LL∧Below w.heap.size w w'
theorem sO (B:Nat) (w:World):LsNew B w (.slice none 0 0) []:=gE (sM B w)
theorem WhAns.nil {w w':World} {c:Int} (hb:Below w.heap.size w w'):WhAns w 0 [] c (.returned (.tuple #[.agg #[.int .i64 0,.slice none 0 0],.int .i64 c])) w':=⟨_,rfl,sO _ _,hb⟩
def CanAns (now:Int) (LL:List (List Tm)) (id:Int) (now':Int) (LL':List (List Tm)) (c:Int):Prop:=
 (¬ WhMay now LL∧now'=0∧LL'=[]∧c=6)∨
 (WhMay now LL∧(∀ t∈LL.flatten,¬ t.id=id)∧now'=0∧LL'=[]∧c=8)∨
 (WhMay now LL∧(∃ t∈LL.flatten,t.id=id)∧now'=now∧LL'=bK now (LL.flatten.filter fun t=>!(t.id == id))∧c=0)
theorem CanAns.no {now:Int} {LL:List (List Tm)} {id now':Int} {LL':List (List Tm)} {c:Int} (h:CanAns now LL id now' LL' c) (hm:¬ WhMay now LL):now'=0∧LL'=[]∧c=6:=by
 rcases h with ⟨_,h⟩|⟨h,_⟩|⟨h,_⟩
 ·exact h
 ·exact absurd h hm
 ·exact absurd h hm
theorem CanAns.none {now:Int} {LL:List (List Tm)} {id now':Int} {LL':List (List Tm)} {c:Int} (h:CanAns now LL id now' LL' c) (hm:WhMay now LL) (hn:∀ t∈LL.flatten,¬ t.id=id):now'=0∧LL'=[]∧c=8:=by
 rcases h with ⟨h,_⟩|⟨_,_,h⟩|⟨_,⟨t,ht,e⟩,_⟩
 ·exact absurd hm h
 ·exact h
 ·exact absurd e (hn t ht)
theorem CanAns.some {now:Int} {LL:List (List Tm)} {id now':Int} {LL':List (List Tm)} {c:Int} (h:CanAns now LL id now' LL' c) (hm:WhMay now LL) (hn:∃ t∈LL.flatten,t.id=id):now'=now∧LL'=bK now (LL.flatten.filter fun t=>!(t.id == id))∧c=0:=by
 rcases h with ⟨h,_⟩|⟨_,h,_⟩|⟨_,_,h⟩
 ·exact absurd hm h
 ·obtain ⟨t,ht,e⟩:=hn;exact absurd e (h t ht)
 ·exact h
theorem cW (lv:Value) (now:Int) (LL:List (List Tm)) (id:Int) (w:World) (r:kY w lv LL) (hn:LL.length≤1048576) (hs:LL.flatten.length≤1048576) (now':Int) (LL':List (List Tm)) (c:Int) (ha:CanAns now LL id now' LL' c) :
  Calls Tryz.prog 44 #[.agg #[.int .i64 now,lv],.int .i64 id] w (WhAns w now' LL' c):=by
 obtain ⟨a,cp,rfl⟩:=bI r
 have R2:=Hm (ed r ((Hs (Hn _ _) (Hv _) (.cells #[.int .i64 now,.slice a LL.length cp] 61)).alloc (by simp) (.cells #[.int .i64 0,.slice none 0 0] 61)))
 have HS:=Hm (fun k (h:k<LL.length)=>Ii (jv h) hs)
 have HA:=Hm ha
 clear r hs ha
 go_enter Tryz.func44,Tryz.ntmps44
 go_wp2_with (go_at_call 86;refine (nt _ now LL _ R2.out (by omega) (fun i hi=>by have:=HS.out i hi;omega)).mono ?_)
 rintro e w1 (⟨q,vl,V,rfl,hm,hq,hq2,hqb,hown,hb1⟩|⟨rfl,hm,hb1⟩)
 rotate_left
 ·obtain ⟨rfl,rfl,rfl⟩:=HA.out.no hm;obtain ⟨hc1,hf1⟩:=aV hb1;go_wp2;refine Ip (v:=.tuple #[.agg #[.int .i64 0,.slice none 0 0],.int .i64 6]) ?_ rfl (WhAns.nil Zb);simp [results,Tryz.results44,go_sem, *]
 ·have h25:=hm.2.2.1;have HM:=Hm hm;have HW:=Hm hqb;have HO:=Hm hown;have HB1:Hid (Below w.heap.size w w1):=Hr (Zb:Below w.heap.size w _) (hb1.mono (by simp;omega));have hz1:=hb1.size;have x0:w1.cell? ⟨q,0,none⟩=some (.int .i64 now):=ae hqb 0;have x1:w1.cell? ⟨q,1,none⟩=some vl:=ae hqb 1;simp at hq hz1;have y0:w1.cell? ⟨w.heap.size+1,0,none⟩=some (.int .i64 0):=ah hb1 (by go_simp) (by simp);have y1:w1.cell? ⟨w.heap.size+1,1,none⟩=some (.slice none 0 0):=ah hb1 (by go_simp) (by simp);have f0:∀ n,w1.frozen? ⟨w.heap.size+1,n,none⟩=false:=fun n=>(hb1.frozen (p:=⟨w.heap.size+1,n,none⟩) (by simp)).trans (by go_simp);have HLn:=Hm h25;have HSz:=Hm (fun i (h:i<LL.length)=>Ii (HS.out i h) (Hv 1048576));clear hm hqb hown hb1;go_wp2_with (go_at_call 87;refine (nV q now vl id LL _ HW.out (gE HO.out).at_ HSz.out).mono ?_);rintro e w2 (⟨rfl,hnone,hb2⟩|⟨i,k,rfl,hi,hk,hid,hb2⟩)
  ·obtain ⟨rfl,rfl,rfl⟩:=HA.out.none HM.out (fun t ht=>by obtain ⟨m,hm,ht⟩:=iK.1 ht;exact hnone m hm t ht);have y0:=aA hb2 y0;have y1:=aA hb2 y1;have f0:∀ n,w2.frozen? ⟨w.heap.size+1,n,none⟩=false:=fun n=>(hb2.frozen (p:=⟨w.heap.size+1,n,none⟩) (by simp;omega)).trans (f0 n);have HB2:=Hm (HB1.out.trans (hb2.mono HB1.out.size));clear hnone;go_wp2;refine Ip (v:=.tuple #[.agg #[.int .i64 0,.slice none 0 0],.int .i64 8]) ?_ rfl (WhAns.nil ((HB2.out.setCell (by simp) _).setCell (by simp) _));simp [results,Tryz.results44,go_sem, *]
  ·have hi25:i<25:=by omega
   obtain ⟨rfl,rfl,rfl⟩:=HA.out.some HM.out ⟨_,iK.2 ⟨i,hi,po rfl hk⟩,hid⟩;have HE:=Hm (EM HM.out hi25 hk hid);have y0:=aA hb2 y0;have y1:=aA hb2 y1;have x0:=aA hb2 x0;have x1:=aA hb2 x1;have f0:∀ n,w2.frozen? ⟨w.heap.size+1,n,none⟩=false:=fun n=>(hb2.frozen (p:=⟨w.heap.size+1,n,none⟩) (by simp;omega)).trans (f0 n);have HB2:=Hm (HB1.out.trans (hb2.mono HB1.out.size));have HO2:=Hm (cj HO.out hb2);have hz2:=hb2.size;clear hb2 HO HW HSz hid;obtain ⟨hV,hro,hrw,hd4,hd5⟩:=HO2.out;rcases fv hro with ⟨_,h0⟩|⟨g0,c0,rfl,_⟩
   ·omega
   have hg0:=hro.lt g0 rfl;have HRo:=Hm hro;have qg:¬ q=g0:=by omega
   have gq:¬ g0=q:=by omega
   have hg1:¬ g0=w.heap.size+1:=by omega
   have hg2:¬ w.heap.size+1=g0:=by omega
   have hq1:¬ q=w.heap.size+1:=by omega
   have hq2':¬ w.heap.size+1=q:=by omega
   have l1:=hro.cellAt i (by omega)
   have hVi:V[i]?=some (V.getD i undef):=by rw [List.getD_eq_getElem?_getD,I4 (by omega)];rfl
   rw [hVi] at l1;have lf:=hro.frozenAt i;have HD4:=Hm (hd4 i hi);have HRw:=Hm (hrw i hi);obtain ⟨vk,hvk⟩:∃ vk,vk=V.getD i undef:=⟨_,rfl⟩;obtain ⟨A,hA⟩:∃ A,A=LL.getD i []:=⟨_,rfl⟩
   have hA2:A.length≤1048576:=by rw [hA];exact HS.out i hi
   have HVk:=Hm hvk;have HAk:=Hm hA;rw [← hvk] at l1 HD4 HRw;rw [← hA] at HRw hk HE;obtain ⟨ak,ck,rfl,_⟩:=aC HRw.out;have i0:(0:Int)≤(i:Int):=by omega
   have i1:(i:Int)<(LL.length:Int):=by omega
   have i2:(i:Int)<25:=by omega
   have k0:¬ (i:Int)<0:=by omega
   have hwk:IntKind.i64.wrap ((k:Int)+1)=(k:Int)+1:=by rw [IntKind.wrap_i64];omega
   clear hro hrw hd4 hd5 hV hVi hvk hA;go_wp2_with fail;refine Zr (fun w':World=>w'.cell? ⟨q,1,none⟩=some (.slice (some ⟨g0,0,none⟩) LL.length c0)) (fun hHeld=>?_);refine ep 0 ?_;refine eP 8 ?_;refine Zt 12 ?_;refine df 14 ?_;refine Zt 16 ?_;refine Z1 13 (fun K hK=>?_);go_simp;refine Zk hK fun hHeld=>?_;clear hK K;refine Z1 17 (fun K hK=>?_);go_simp;(go_at_call 88;refine (delTm (q+1) _ A k _ (by simp;omega) (bA HRw.out (aJ (n:=1) (Hn w2.heap.size w2))) hk hA2).mono ?_;rintro e w3 ⟨v3,rfl,hob,hown3,hz3,hbl3,hb3⟩;have z1:w3.cell? ⟨q,1,none⟩=some (.slice (some ⟨g0,0,none⟩) LL.length c0):=(I1 (w:=w2.drewN 1) (w':=w3) (a:=⟨q,1,none⟩) (hbl3 q (by simp;omega) (fun e=>by have:=(HRw.out.lt _ e).1;omega))).trans (dh _ x1);have z2:w3.cell? ⟨g0,i,none⟩=some (.slice ak A.length ck):=(I1 (w:=w2.drewN 1) (w':=w3) (a:=⟨g0,i,none⟩) (hbl3 g0 (by simp;omega) (fun e=>HD4.out _ e rfl))).trans (dh _ l1);have z3:w3.frozen? ⟨g0,i,none⟩=false:=(aX HRo.out (fun b hb=>by have e:b=g0:=(Option.some.inj hb).symm;subst e;exact hbl3 b (by simp;omega) (fun e=>HD4.out _ e rfl))).frozenAt i;obtain ⟨a3,c3,rfl,_⟩:=aC hown3;have HN3:=Hm hown3;have HBl3:=Hm hbl3;have HOb:=Hm hob;have HB3:=Hm hb3;clear hown3 hbl3 hob hb3);(try go_wp2_with fail);refine Zk hK fun hHeld=>?_;clear hK K;refine Zt 18 ?_;refine Z1 19 (fun K hK=>?_);go_simp;refine Zk hK fun hHeld=>?_;clear hK K;refine Zd ?_;have hblk:∀ b,b<w2.heap.size→(V.getD i undef).ownBlock≠some b→w3.heap[b]?=w2.heap[b]?:=fun b hb hne=>HBl3.out b (by simp;omega) (by rw [HVk.out];exact hne);have HS3:=Hm (iy (L':=A.take k++A.drop (k+1)) HO2.out hi rfl hblk (fun b hb=>Or.inl (by rw [← HVk.out,← HOb.out];exact hb)) HN3.out);have hqk:w3.heap[q]?=w2.heap[q]?:=HBl3.out q (by simp;omega) (fun e=>by have:=(HRw.out.lt _ e).1;omega);have hrk:w3.heap[w.heap.size+1]?=w2.heap[w.heap.size+1]?:=HBl3.out (w.heap.size+1) (by simp;omega) (fun e=>by have:=(HRw.out.lt _ e).1;omega);have u0:w3.cell? ⟨q,0,none⟩=some (.int .i64 now'):=(I1 (w:=w2) (w':=w3) (a:=⟨q,0,none⟩) hqk).trans x0;have v0:w3.cell? ⟨w.heap.size+1,0,none⟩=some (.int .i64 0):=(I1 (w:=w2) (w':=w3) (a:=⟨w.heap.size+1,0,none⟩) hrk).trans y0;have v1:w3.cell? ⟨w.heap.size+1,1,none⟩=some (.slice none 0 0):=(I1 (w:=w2) (w':=w3) (a:=⟨w.heap.size+1,1,none⟩) hrk).trans y1;have v2:∀ n,w3.frozen? ⟨w.heap.size+1,n,none⟩=false:=fun n=>(World.frozen?_of_block (w:=w2) (w':=w3) (a:=⟨w.heap.size+1,n,none⟩) hrk).trans (f0 n);have HB5:Hid (Below w.heap.size w w3):=HB2.out.trans ((aJ (n:=1) (Hn _ w2)).trans (HB3.out.mono (by omega)));clear hblk HBl3 HOb HN3 HB3 HO2;go_wp2_with fail;refine Ip (v:=.tuple #[.agg #[.int .i64 now',.slice (some ⟨g0,0,none⟩) LL.length c0],.int .i64 0]) ?_ rfl ⟨_,rfl,?_,((HB5.out.setCell (by simp;omega) _).setCell (by simp) _).setCell (by simp) _⟩
   ·simp [results,Tryz.results44,go_sem, *]
   ·have hz4:w2.heap.size≤w3.heap.size:=by simpa using hz3
    rw [← HE.out];refine mb (gE (ea HS3.out fun b h1 h2=>?_)) (B:=q+1) (by omega);rw [Hu _ _ _ _ (by simp;omega),Hu _ _ _ _ (by simp;omega)];simp
theorem yn (X:List Fl) {k:Nat} (h:k≤X.length):(X.map Fl.cells).flatten.take (k*7)=((X.take k).map Fl.cells).flatten:=by
 have e:(X.map Fl.cells).flatten=((X.take k).map Fl.cells).flatten++((X.drop k).map Fl.cells).flatten:=by
  exact Q96
 rw [e];exact List.take_left' (by rw [aO (p8 _),I2,Ib];omega)
theorem yr (X:List Fl) {k:Nat} (h:k≤X.length):(X.map Fl.cells).flatten.drop (k*7)=((X.drop k).map Fl.cells).flatten:=by
 have e:(X.map Fl.cells).flatten=((X.take k).map Fl.cells).flatten++((X.drop k).map Fl.cells).flatten:=by
  exact Q96
 rw [e];exact List.drop_left' (by rw [aO (p8 _),I2,Ib];omega)
def GN (B:Nat) (w:World) (v:Value) (X:List Fl) (k:Nat) (e:Ending) (w':World):Prop:=∃ v',e=.returned v'∧v'.ownBlock=v.ownBlock∧w'.ownsRow B 98 7 v' (X.take k++X.drop (k+1)).length ((X.take k++X.drop (k+1)).map Fl.cells).flatten∧w.heap.size≤w'.heap.size∧(∀ b,b<w.heap.size→v.ownBlock≠some b→w'.heap[b]?=w.heap[b]?)∧Below B w w'
theorem delFl (B:Nat) (v:Value) (X:List Fl) (k:Nat) (w:World) (hB:B≤w.heap.size) (hown:w.ownsRow B 98 7 v X.length (X.map Fl.cells).flatten) (hk:k<X.length) (hn:X.length≤1048576) :
  Calls Tryz.prog 120 #[v,.int .i64 (k:Int),.int .i64 ((k:Int)+1)] w (GN B w v X k):=by
 obtain ⟨i0,hi,hi0,hi1,hi2⟩:=info_parts vM
 have hz:∀ W,(sizeOf 98).run Tryz.prog W=.ok 7 W:=fun W=>by simp [sizeOf,typeInfo,hi,hi1]
 have ht:Tryz.prog.underlying 48=some (.slice (Tryz.prog.elem 48)):=by kernel_rfl
 have he:Tryz.prog.elem 48=98:=by kernel_rfl
 rcases fv hown with ⟨_,h0⟩|⟨g,cap,rfl,_⟩
 ·omega
 have hcap:=tH hown
 unfold maxLen at hcap
 have hgB:=hown.lt _ rfl
 have k1:(k:Int)<(X.length:Int):=by omega
 have k2:¬ (k:Int)=(k:Int)+1:=by omega
 have k3:((k:Int) == (k:Int)+1)=false:=by rw [beq_eq_false_iff_ne];omega
 have k4:((k:Int)+1).toNat=k+1:=by omega
 have k5:IntKind.i64.wrap ((k:Int)+1)=(k:Int)+1:=by rw [IntKind.wrap_i64];omega
 have hs0:∀ W,(Instr.slice 48 (.slice (some ⟨g,0,none⟩) X.length cap) (some (.int .i64 (k:Int))) (some (.int .i64 ((k:Int)+1))) (some (.int .i64 (X.length:Int)))).run Tryz.prog W=.ok (.slice (some ⟨g,k*7,none⟩) 1 (X.length - k)) W:=fun W=>by
  rw [run_slice_lhm W 48 _ _ _ ht .i64 .i64 .i64 _ _ _ (by omega) (by omega) (by omega) (by omega),he,hz];exact Q169
 have hs1:∀ W,(Instr.slice 48 (.slice (some ⟨g,0,none⟩) X.length cap) none (some (.int .i64 (k:Int))) none).run Tryz.prog W=.ok (.slice (some ⟨g,0,none⟩) k cap) W:=fun W=>by
  exact Q86
 have hs2:∃ ad,(k+1<X.length→ad=⟨g,(k+1)*7,none⟩)∧∀ W,(Instr.slice 48 (.slice (some ⟨g,0,none⟩) X.length cap) (some (.int .i64 ((k:Int)+1))) none none).run Tryz.prog W=.ok (.slice (some ad) (X.length - (k+1)) (cap - (k+1))) W:=by
  by_cases hc:cap=k+1
  ·refine ⟨⟨g,0,none⟩,fun h=>by omega,fun W=>?_⟩;rw [run_slice_l W 48 _ _ _ ht .i64 _ (by omega) (by omega),he,hz];simp [Result.andThen,sliced,hc,k4]
  ·refine ⟨⟨g,(k+1)*7,none⟩,fun _=>rfl,fun W=>?_⟩;rw [run_slice_l W 48 _ _ _ ht .i64 _ (by omega) (by omega),he,hz];simp [Result.andThen,sliced,hc,Addr.add_lit,k4]
 obtain ⟨ad,had,hs2⟩:=hs2
 have HO:=Hm hown
 have hown0:=Hm hown
 have HAd:=Hm had
 clear hown had ht he hz
 go_enter Tryz.func120,Tryz.ntmps120
 go_wp2_with fail
 have hfl:(X.map Fl.cells).flatten.length=X.length*7:=hown0.out.1
 have HOD:=Hm (bA HO.out (aJ (n:=1) (Hn w.heap.size w)))
 have hfr:=kK HOD.out (i:=k) (by omega)
 obtain ⟨w3,hr3,ho3,hg3⟩:=run_append_fits (P:=Tryz.prog) (w:=w.drewN 1) B 48 48 98 i0 7 Tryz.underlying48 hi hi1 g k cap _ hfr ad (X.length - (k+1)) (cap - (k+1)) (((X.drop (k+1)).map Fl.cells).flatten) (by rw [aO (p8 _),I2,List.length_drop]) (by
  intro j u hu
  have hlt:k+1<X.length:=by
   exact Q142
  rw [HAd.out hlt,← yr X (by omega)] at *;rw [List.getElem?_drop] at hu
  have hj:(k+1)*7+j<X.length*7:=by
   rcases Nat.lt_or_ge ((k+1)*7+j) (X.length*7) with h|h
   ·exact h
   ·rw [Id (by omega)] at hu
    cases hu
  rw [Go.WideShapes.add_plain,HOD.out.cellAt _ hj,hu]) (zg _) (by omega)
 have hr3':=hr3
 rw [show k+(X.length - (k+1))=X.length - 1 by omega] at ho3 hr3'
 rw [yn X (by omega),← Ie,← Ij] at ho3
 have hb3:Below B w w3:=by
  exact Q100
 have hz3:w.heap.size≤w3.heap.size:=hg3.size
 have hblk:∀ b,b<w.heap.size→b≠g→w3.heap[b]?=w.heap[b]?:=fun b hb hne=>hg3.block b (by simpa using hb) (by simpa using hne)
 obtain ⟨W2,hcl,hn2,hs2',hb2,ho2⟩:=qJ (w:=w3) 48 98 0 (.agg #[.int .i64 0,.int .i64 0,.int .i64 0,.int .i64 0,.bool false,.int .i64 0,.int .i64 0]) 7 g (X.length - 1) cap 1 (cap - (X.length - 1)) B Tryz.underlying48 hi hi0 rfl (by decide) ho3 (by omega)
 have HB3:=Hm hb3
 have HB2:=Hm hb2
 have HO2:=Hm ho2
 have HBL:=Hm hblk
 have HN2:=Hm hn2
 clear hb3 hb2 ho2 hblk hn2 ho3 hg3 hfr hfl hr3
 (refine Zr (fun _=>True) (fun hHeld=>?_) (by (try dsimp only);all_goals exact trivial);refine eP 0 ?_;refine df 4 ?_;refine Z1 6 (fun K hK=>?_);rw [if_pos (by rfl)];(refine kZ _ _ _ 48 rfl _ _ _ _ (by rfl) (by rfl) hr3' ?_);refine Zk hK (hS:=by (try dsimp only);all_goals exact trivial) fun hHeld=>?_;clear hK K;refine Zt 7 ?_;refine Zd ?_)
 have hc1:((X.length:Int) - 1).toNat=X.length - 1:=by omega
 have hsl:∀ W,(Instr.slice 48 (.slice (some ⟨g,0,none⟩) (X.length - 1) cap) (some (.int .i64 ((X.length - 1:Nat):Int))) (some (.int .i64 (X.length:Int))) none).run Tryz.prog W=.ok (.slice (some ⟨g,(X.length - 1)*7,none⟩) 1 (cap - (X.length - 1))) W:=fun W=>by
  have ht:Tryz.prog.underlying 48=some (.slice (Tryz.prog.elem 48)):=by kernel_rfl
  have he:Tryz.prog.elem 48=98:=by kernel_rfl
  rw [run_slice_lh W 48 _ _ _ ht .i64 .i64 _ _ (by omega) (by omega) (by omega),he];have hz:(sizeOf 98).run Tryz.prog W=.ok 7 W:=by simp [sizeOf,typeInfo,hi,hi1]
  exact Q127
 go_wp2_with fail
 go_ret
 have hz2:=hs2'
 refine ⟨_,rfl,rfl,?_,by omega,fun b hb hne=>(HN2.out b (fun e=>hne (by rw [e];rfl))).trans (HBL.out b hb (fun e=>hne (by rw [e];rfl))),HB3.out.trans HB2.out⟩
 have hl:(X.take k++X.drop (k+1)).length=X.length - 1:=by rw [I5,Ib,List.length_drop];omega
 rw [hl];exact HO2.out
def rv (n:Int) (M:List (List Tm)) (t:Tm):List (List Tm):=M.set (fX t n) (iD (M.getD (fX t n) []++[t]))
theorem CB (n:Int) (M:List (List Tm)) (t:Tm):(rv n M t).length=M.length:=by simp [rv]
def fZ (n:Int) (M:List (List Tm)) (X:List Tm):List (List Tm):=X.foldl (rv n) M
theorem xN (n:Int) (M:List (List Tm)) (X:List Tm) (t:Tm):fZ n M (X++[t])=rv n (fZ n M X) t:=by simp [fZ]
theorem rS (n:Int):∀ (X:List Tm) (M:List (List Tm)),M.length=25→(∀ i,i<25→iS (M.getD i []))→
  (fZ n M X).length=25∧∀ i,i<25→(fZ n M X).getD i []=iD (M.getD i []++X.filter fun t=>fX t n == i):=by
 intro X
 induction X with
 | nil=>intro M h1 h2;exact ⟨h1,fun i hi=>by simp only [fZ,List.foldl_nil,List.filter_nil,List.append_nil];exact (i9 (h2 i hi)).symm⟩
 | cons t X ih=>
  intro M h1 h2;have hp:fX t n<25:=fu _ _;have g1:(rv n M t).length=25:=by rw [CB,h1]
  have g2:∀ i,i<25→(rv n M t).getD i []=iD (M.getD i []++if fX t n=i then [t] else []):=by
   intro i hi;unfold rv;by_cases e:fX t n=i
   ·subst e;rw [cN (by omega),if_pos rfl]
   ·rw [cD e,if_neg e,List.append_nil,i9 (h2 i hi)]
  obtain ⟨g3,g4⟩:=ih (rv n M t) g1 (fun i hi=>by rw [g2 i hi];exact jd _);refine ⟨g3,fun i hi=>?_⟩;show (fZ n (rv n M t) X).getD i []=_
  rw [g4 i hi,g2 i hi];refine lH (((di _).append_right _).trans ?_);rw [List.append_assoc,List.filter_cons];by_cases e:fX t n=i
  ·rw [if_pos e,if_pos (by simpa using e)];exact List.Perm.refl _
  ·rw [if_neg e,if_neg (by simpa using e)];exact List.Perm.refl _
def oI (n:Int) (j:Nat) (M:List (List Tm)):List (List Tm):=fZ n (M.set j []) (M.getD j [])
def Lay (s:Tm→Nat) (E:List Tm) (M:List (List Tm)):Prop:=M.length=25∧∀ i,i<25→M.getD i []=iD (E.filter fun t=>s t == i)
theorem Lay.ord {s:Tm→Nat} {E:List Tm} {M:List (List Tm)} (h:Lay s E M):∀ i,i<25→iS (M.getD i []):=fun i hi=>by rw [h.2 i hi];exact jd _
theorem yu {α:Type} (p q r:α→Bool) (E:List α) (h1:∀ x,r x=(p x || q x)) (h2:∀ x,p x=true→q x=false):(E.filter p++E.filter q).Perm (E.filter r):=by
 have h:=List.filter_append_perm p (E.filter r);rw [List.filter_filter,List.filter_filter] at h
 rw [show E.filter p=E.filter (fun a=>p a && r a) from List.filter_congr (fun x _=>by rw [h1];cases p x<;>simp),
  show E.filter q=E.filter (fun a=>!p a && r a) from List.filter_congr (fun x _=>by
   rw [h1]
   cases hp:p x with
   | false=>simp
   | true=>simp [h2 x hp])]
 exact h
theorem GJ {s:Tm→Nat} {E:List Tm} {M:List (List Tm)} (h:Lay s E M) (n:Int) {j:Nat} (hj:j<25):Lay (fun t=>if s t=j then fX t n else s t) E (oI n j M):=by
 have ho:∀ i,i<25→iS ((M.set j []).getD i []):=fun i hi=>by
  by_cases e:j=i
  ·subst e;rw [cN (by rw [h.1];exact hj)];exact List.Pairwise.nil
  ·rw [cD e];exact h.ord i hi
 obtain ⟨g1,g2⟩:=rS n (M.getD j []) (M.set j []) (by rw [I9];exact h.1) ho;refine ⟨g1,fun i hi=>?_⟩;unfold oI;rw [g2 i hi];refine lH ?_
 have e1:((M.set j []).getD i []).Perm (E.filter fun t=>!(s t == j) && (s t == i)):=by
  by_cases e:j=i
  ·subst e;rw [cN (by rw [h.1];exact hj),List.filter_eq_nil_iff.2 (by simp)]
  ·rw [cD e,h.2 i hi];refine (di _).trans ?_
   rw [List.filter_congr (q:=fun t=>!(s t == j) && (s t == i)) (fun x _=>by
    by_cases h1:s x=i
    ·simp [h1,show ¬ i=j from fun h=>e (Eq.symm h)]
    ·simp [h1])]
 have e2:((M.getD j []).filter fun t=>fX t n == i).Perm (E.filter fun t=>(s t == j) && (fX t n == i)):=by
  rw [h.2 j hj];refine ((di _).filter _).trans ?_;rw [List.filter_filter];rw [List.filter_congr (q:=fun t=>(s t == j) && (fX t n == i)) (fun x _=>Bool.and_comm _ _)]
 refine (e1.append e2).trans (yu _ _ _ E (fun x=>?_) (fun x hx=>?_))
 ·show ((if s x=j then fX x n else s x) == i)=_
  by_cases h1:s x=j
  ·simp [h1]
  ·rw [if_neg h1];have h2:(s x == j)=false:=by simpa using h1
   simp [h2]
 ·simp only [Bool.and_eq_true,Bool.not_eq_true',beq_eq_false_iff_ne,beq_iff_eq] at hx;simp [hx.1]
def advS (n:Nat) (z j:Nat) (M:List (List Tm)):List (List Tm):=if n % z=0 then oI (n:Int) j M else M
def qQ (n:Nat) (k:Nat):Nat×Nat:=if k=0 then (512,24) else if k=1 then (64,16+n / 64 % 8) else (8,8+n / 8 % 8)
def fR (n:Nat) (M:List (List Tm)):Nat→List (List Tm)
 | 0=>M
 | k+1=>advS n (qQ n k).1 (qQ n k).2 (fR n M k)
theorem Gu (n k:Nat):(qQ n k).2<25:=by unfold qQ;split;simp;split<;>(simp;omega)
theorem nP {s s':Tm→Nat} {E:List Tm} {M:List (List Tm)} (h:Lay s E M) (hs:∀ t∈E,s t=s' t):Lay s' E M:=
 ⟨h.1,fun i hi=>by rw [h.2 i hi,List.filter_congr (fun t ht=>by rw [hs t ht])]⟩
def Gt (n:Nat) (k:Nat) (s:Tm→Nat) (t:Tm):Nat:=if n % (qQ n k).1=0∧s t=(qQ n k).2 then fX t n else s t
theorem mU {s:Tm→Nat} {E:List Tm} {M:List (List Tm)} (n k:Nat) (h:Lay s E M):Lay (Gt n k s) E (advS n (qQ n k).1 (qQ n k).2 M):=by
 unfold advS;by_cases hz:n % (qQ n k).1=0
 ·rw [if_pos hz];refine nP (GJ h n (Gu n k)) (fun t _=>?_);unfold Gt;by_cases e:s t=(qQ n k).2<;>simp [hz,e]
 ·rw [if_neg hz];refine nP h (fun t _=>?_);unfold Gt;simp [hz]
theorem Aq {A N:Nat} (h:N<A) :
  (let n:=N+1
   let s0:=bH A N
   let s1:=if n % 512=0∧s0=24 then bH A n else s0
   let s2:=if n % 64=0∧s1=16+n / 64 % 8 then bH A n else s1
   if n % 8=0∧s2=8+n / 8 % 8 then bH A n else s2)=bH A (N+1):=by
 have p0:bH A N=24∨bH A N<24:=by have:=fu A N;omega
 simp only
 rcases (show (N+1) % 8≠0∨(N+1) % 8=0 by omega) with h8|h8
 ·have h64:¬ (N+1) % 64=0:=by omega
  have h512:¬ (N+1) % 512=0:=by omega
  simp only [h8,h64,h512,false_and,if_false];have e1:(N+1) / 8=N / 8:=by omega
  have e2:(N+1) / 64=N / 64:=by omega
  have e3:(N+1) / 512=N / 512:=by omega
  unfold bH;rw [e1,e2,e3]
 ·rcases (show (N+1) % 64≠0∨(N+1) % 64=0 by omega) with h64|h64
  ·have h512:¬ (N+1) % 512=0:=by omega
   simp only [h8,h64,h512,false_and,if_false,true_and];have e2:(N+1) / 64=N / 64:=by omega
   have e3:(N+1) / 512=N / 512:=by omega
   have e1:¬ A / 8=N / 8:=by omega
   by_cases h:bH A N=8+(N+1) / 8 % 8
   ·rw [if_pos h]
   ·rw [if_neg h];unfold bH at h ⊢;rw [if_neg e1] at h ⊢;rw [e2,e3];by_cases g1:A / 8=(N+1) / 8
    ·exfalso;rw [if_pos (by omega)] at h;omega
    ·rw [if_neg g1]
  ·rcases (show (N+1) % 512≠0∨(N+1) % 512=0 by omega) with h512|h512
   ·simp only [h8,h64,h512,false_and,if_false,true_and];have e3:(N+1) / 512=N / 512:=by omega
    have e1:¬ A / 8=N / 8:=by omega
    have e2:¬ A / 64=N / 64:=by omega
    have hs:bH A N=if A / 512=N / 512 then 16+A / 64 % 8 else 24:=by unfold bH;rw [if_neg e1,if_neg e2]
    rw [hs];by_cases g3:A / 512=N / 512
    ·rw [if_pos g3];by_cases g:16+A / 64 % 8=16+(N+1) / 64 % 8
     ·rw [if_pos g,ite_self]
     ·rw [if_neg g,if_neg (by omega)];unfold bH;rw [if_neg (by omega),if_neg (by omega),if_pos (by omega)]
    ·have q3:¬ A / 512=(N+1) / 512:=by omega
     have q2:¬ A / 64=(N+1) / 64:=by omega
     have q1:¬ A / 8=(N+1) / 8:=by omega
     have a1:¬ 24=16+(N+1) / 64 % 8:=by omega
     have a2:¬ 24=8+(N+1) / 8 % 8:=by omega
     rw [if_neg g3,if_neg a1,if_neg a2];unfold bH;rw [if_neg q1,if_neg q2,if_neg q3]
   ·simp only [h8,h64,h512,true_and];have e1:¬ A / 8=N / 8:=by omega
    have e2:¬ A / 64=N / 64:=by omega
    have e3:¬ A / 512=N / 512:=by omega
    have hs:bH A N=24:=by unfold bH;rw [if_neg e1,if_neg e2,if_neg e3]
    rw [hs,if_pos rfl,ite_self,ite_self]
theorem E9 {now:Nat} {LL:List (List Tm)} (h:WhMay (now:Int) LL):fR (now+1) LL 3=bK ((now+1:Nat):Int) LL.flatten:=by
 have hl:=h.2.2.1
 have l0:Lay (fun t=>fX t (now:Int)) LL.flatten LL:=⟨hl,fun i hi=>by
  rw [kF hl (fun i hi t ht=>((h.2.2.2.1 i hi).1 t ht).2) hi]
  exact (i9 (h.2.2.2.1 i hi).2).symm⟩
 have l3:=mU (now+1) 2 (mU (now+1) 1 (mU (now+1) 0 l0))
 have l4:Lay (fun t=>fX t ((now+1:Nat):Int)) LL.flatten (fR (now+1) LL 3):=nP l3 (fun t ht=>by
  obtain ⟨A,hA⟩:=Ia (show 0≤t.at_ by have:=(h.tm t ht).1;have:=h.1;omega)
  have hlt:now<A:=by have:=(h.tm t ht).1;omega
  have e1:fX t (now:Int)=bH A now:=by unfold fX;rw [hA];rfl
  have e2:fX t ((now+1:Nat):Int)=bH A (now+1):=by unfold fX;rw [hA];rfl
  have:=Aq hlt;simp only at this;simp only [Gt,e1,e2,qQ]
  simpa using this)
 exact jk l4.1 (cV _ _) (fun i hi=>by rw [l4.2 i hi,dQ _ _ hi])
theorem Ec (n:Nat) (M:List (List Tm)):fR n M 1=if n % 512=0 then oI (n:Int) 24 (fR n M 0) else fR n M 0:=rfl
theorem Eb (n:Nat) (M:List (List Tm)):fR n M 2=if n % 64=0 then oI (n:Int) (16+n / 64 % 8) (fR n M 1) else fR n M 1:=rfl
theorem Ea (n:Nat) (M:List (List Tm)):fR n M 3=if n % 8=0 then oI (n:Int) (8+n / 8 % 8) (fR n M 2) else fR n M 2:=rfl
theorem tD {t:Tm} {n:Nat} (h:(n:Int)≤t.at_):fX t (n:Int)=n % 8↔t.at_=n:=by
 obtain ⟨A,hA⟩:=Ia (show 0≤t.at_ by omega)
 have e:fX t (n:Int)=bH A n:=by unfold fX;rw [hA];rfl
 rw [e,hA];unfold bH;constructor
 ·intro h
  split at h
  ·omega
  ·split at h
   ·omega
   ·split at h<;>omega
 ·intro h;have:A=n:=by omega
  subst this;simp
theorem qP {now:Nat} {LL:List (List Tm)} (h:WhMay (now:Int) LL) (n:Nat):∀ k,∃ s,Lay s LL.flatten (fR n LL k):=by
 intro k
 induction k with
 | zero=>exact ⟨fun t=>fX t (now:Int),h.2.2.1,fun i hi=>by
   show LL.getD i []=_
   rw [kF h.2.2.1 (fun i hi t ht=>((h.2.2.2.1 i hi).1 t ht).2) hi]
   exact (i9 (h.2.2.2.1 i hi).2).symm⟩
 | succ k ih=>obtain ⟨s,hs⟩:=ih;exact ⟨_,mU n k hs⟩
theorem Lay.mem {s:Tm→Nat} {E:List Tm} {M:List (List Tm)} (h:Lay s E M) {i:Nat} (hi:i<25):∀ t∈M.getD i [],t∈E:=fun t ht=>by
 rw [h.2 i hi] at ht;exact (List.mem_filter.1 ((di _).mem_iff.1 ht)).1
theorem Lay.len {s:Tm→Nat} {E:List Tm} {M:List (List Tm)} (h:Lay s E M) {i:Nat} (hi:i<25):(M.getD i []).length≤E.length:=by
 rw [h.2 i hi,(di _).length_eq];exact List.length_filter_le _ _
theorem Fk {s:Tm→Nat} {E:List Tm} {M:List (List Tm)} (h:Lay s E M) (n:Int) {j:Nat} (hj:j<25) (m:Nat) :
  (fZ n (M.set j []) ((M.getD j []).take m)).length=25∧∀ i,i<25→iS ((fZ n (M.set j []) ((M.getD j []).take m)).getD i [])∧((fZ n (M.set j []) ((M.getD j []).take m)).getD i []).length≤E.length+E.length:=by
 have ho:∀ i,i<25→iS ((M.set j []).getD i [])∧((M.set j []).getD i []).length≤E.length:=fun i hi=>by
  by_cases e:j=i
  ·subst e;rw [cN (by rw [h.1];exact hj)];exact ⟨List.Pairwise.nil,by simp⟩
  ·rw [cD e];exact ⟨h.ord i hi,h.len hi⟩
 obtain ⟨g1,g2⟩:=rS n ((M.getD j []).take m) (M.set j []) (by rw [I9];exact h.1) (fun i hi=>(ho i hi).1)
 refine ⟨g1,fun i hi=>?_⟩
 rw [g2 i hi]
 refine ⟨jd _,?_⟩
 rw [(di _).length_eq,I5]
 have h1:=(ho i hi).2
 have h2:=h.len hj
 have h3:(((M.getD j []).take m).filter fun t=>fX t n == i).length≤(M.getD j []).length:=Ii (List.length_filter_le _ _) (List.length_take_le' _ _)
 omega
theorem Gs {now n:Nat} (hn:n=now+1) {LL:List (List Tm)} (h:WhMay (now:Int) LL) :
  (bK (n:Int) LL.flatten).set (n % 8) []=bK (n:Int) (LL.flatten.filter fun t=>decide ((n:Int)<t.at_))∧
  (bK (n:Int) LL.flatten).getD (n % 8) []=iD (LL.flatten.filter fun t=>t.at_ == (n:Int)):=by
 have hat:∀ t∈LL.flatten,(n:Int)≤t.at_:=fun t ht=>by have:=(h.tm t ht).1;omega
 have hm:n % 8<25:=by omega
 clear hn
 refine ⟨jk (by simp [cV]) (cV _ _) (fun i hi=>?_),?_⟩
 ·rw [dQ _ _ hi,List.filter_filter];by_cases e:n % 8=i
  ·rw [← e,cN (by rw [cV];omega),List.filter_eq_nil_iff.2 (fun t ht=>by
    have:=tD (hat t ht);simp only [Bool.and_eq_true,beq_iff_eq,decide_eq_true_eq]
    omega)]
   exact (i9 List.Pairwise.nil).symm
  ·rw [cD e,dQ _ _ hi];rw [List.filter_congr (fun t ht=>?_)];have h1:=tD (hat t ht);have h2:=hat t ht;by_cases g:fX t (n:Int)=i
   ·have:(n:Int)<t.at_:=by
     rcases Int.lt_or_eq_of_le h2 with h3|h3
     ·exact h3
     ·exact absurd (h1.2 h3.symm) (by omega)
    simp [g,this]
   ·simp [g]
 ·rw [dQ _ _ hm,List.filter_congr (fun t ht=>?_)];have h1:=tD (hat t ht);by_cases g:t.at_=(n:Int)
  ·rw [beq_iff_eq.2 (h1.2 g),beq_iff_eq.2 g]
  ·rw [beq_eq_false_iff_ne.2 (fun e=>g (h1.1 e)),beq_eq_false_iff_ne.2 g]
def RgCPost (w:World) (L:List Sp) (c:Int) (e:Ending) (w':World):Prop:=∃ v,e=.returned (.tuple #[.agg #[v],.int .i64 c])∧aM w.heap.size w' 2 v (L.map Sp.cells)∧Below w.heap.size w w'
theorem RgCPost.nil {w w':World} {c:Int} (hb:Below w.heap.size w w'):RgCPost w [] c (.returned (.tuple #[.agg #[.slice none 0 0],.int .i64 c])) w':=⟨_,rfl,bD _ _ _,hb⟩
theorem pV (v:Value) (X:List Sp) (w:World) (b wt:Int) (L:List Sp) (c:Int) (r:aI w 2 v (X.map Sp.cells)) (hn:X.length*16≤140737488351232) (ha:yL X b wt L c):Calls Tryz.prog 71 #[.agg #[v],.int .i64 b,.int .i64 wt] w (RgCPost w L c):=by
 obtain ⟨i0,hi,hi0,hi1,hi2⟩:=info_parts ku;have R:=Hm r;obtain ⟨a,cp,rfl,_⟩:=aq r;have HA:=Hm ha;clear r ha;go_enter Tryz.func71,Tryz.ntmps71;go_wp2_with fail;refine (jx _ X _ (ai (ai R.out _) _) hn).mono ?_;rintro e w1 ⟨W,bo,hW,rfl,h1,h2,hb⟩;have HB:=Hm ((((Hn w.heap.size w).alloc (Hv _) _).alloc (by simp) _).trans (hb.mono (by simp;omega)));have hz1:=hb.size;simp at hz1;have k0:w.heap.size<w1.heap.size:=by omega
 have k1:w.heap.size+1<w1.heap.size:=by omega
 have g0:w1.cell? ⟨w.heap.size,0,none⟩=some (.slice a X.length cp):=by rw [hb.cell (p:=⟨w.heap.size,0,none⟩) Zs];go_simp
 have g1:w1.cell? ⟨w.heap.size+1,0,none⟩=some (.slice none 0 0):=by rw [hb.cell (p:=⟨w.heap.size+1,0,none⟩) Zs];go_simp
 have g2:w1.frozen? ⟨w.heap.size+1,0,none⟩=false:=by rw [hb.frozen (p:=⟨w.heap.size+1,0,none⟩) Zs];go_simp
 have H1:=Hm h1;have H2:=Hm h2;have HW:=Hm hW;have RX:=Hm (au R.out HB.out);clear hb h1 h2 hW;rcases HA.out with ⟨hm,rfl,rfl⟩|⟨hm,hs,rfl,rfl⟩|⟨n,m,hm,rfl,hn12,rfl,hm1,hm8,hs⟩
 ·have:=H2.out hm;subst this;clear hm HA;go_wp2_with (refine bN rfl 226 (.tmp 8) (.tmp 14) rfl w1.heap.size (cQ W) rfl rfl 226 (cQ (List.replicate 12 0)) (az _ rfl) (ci HW.out) (by rw [dp HW.out];rfl) (dU _) ?_;intro W2 hW2 _ hs2 hb2;obtain ⟨hc2,hf2⟩:=aV hb2;have hb2':=Hm ((HB.out.alloc (by omega) _).trans (hb2.mono (by omega)));clear hb2;simp at hs2)
  all_goals first|(refine Ip (v:=.tuple #[.agg #[.slice none 0 0],.int .i64 6]) ?_ rfl (RgCPost.nil (hb2'.out.setCell (by simp) _));(simp [results,Tryz.results71,go_sem, *];done))
 ·obtain ⟨rfl,rfl⟩:=H1.out hm;clear hm HA;rcases (show b<0∨(¬ b<0∧12≤b)∨(¬ b<0∧¬ 12≤b∧wt<1)∨(¬ b<0∧¬ 12≤b∧¬ wt<1∧8<wt) by omega) with h|⟨h,ha⟩|⟨h,ha,hb⟩|⟨h,ha,hb,hd⟩
  all_goals
   clear hs
   go_wp2_with (refine bN rfl 226 (.tmp 8) (.tmp 14) rfl w1.heap.size (cQ (fx X 12)) rfl rfl 226 (cQ (List.replicate 12 0)) (az _ rfl) (ci HW.out) (by rw [dp HW.out];rfl) (dU _) ?_;intro W2 hW2 _ hs2 hb2;obtain ⟨hc2,hf2⟩:=aV hb2;have hb2':=Hm ((HB.out.alloc (by omega) _).trans (hb2.mono (by omega)));clear hb2;simp at hs2)
   all_goals first|(refine Ip (v:=.tuple #[.agg #[.slice none 0 0],.int .i64 2]) ?_ rfl (RgCPost.nil (hb2'.out.setCell (by simp) _));(simp [results,Tryz.results71,go_sem, *];done))
 ·obtain ⟨rfl,rfl⟩:=H1.out hm;have hWn:(fx X 12)[n]?=some (((gh X).getD n 0:Nat):Int):=by rw [jj X 12 hn12,if_pos hn12,kH X hn12]
  have HWn:=Hm hWn;have HM:=Hm hm;have a1:¬ (n:Int)<0:=by omega
  have a2:¬ 12≤(n:Int):=by omega
  have a3:¬ (m:Int)<1:=by omega
  have a4:¬ 8<(m:Int):=by omega
  have a5:(n:Int)<12:=by omega
  have a6:0≤(n:Int):=by omega
  obtain ⟨q,hq⟩:∃ q,q=(gh X).getD n 0:=⟨_,rfl⟩;rw [← hq] at HWn hs;have HQ:=Hm hq;clear hm hWn HA hq;rcases hs with ⟨hp,rfl,rfl⟩|⟨rfl,rfl,rfl⟩
  ·have hp':0<(q:Int):=by omega
   go_wp2_with ((refine bN rfl 226 (.tmp 8) (.tmp 14) rfl w1.heap.size (cQ (fx X 12)) rfl rfl 226 (cQ (List.replicate 12 0)) (az _ rfl) (ci HW.out) (by rw [dp HW.out];rfl) (dU _) ?_;intro W2 hW2 _ hs2 hb2;obtain ⟨hc2,hf2⟩:=aV hb2;have hb2':=Hm ((HB.out.alloc (by omega) _).trans (hb2.mono (by omega)));clear hb2;simp at hs2);have e1:=(ae hW2 n).trans (iN HWn.out))
   all_goals first|(refine Ip (v:=.tuple #[.agg #[.slice none 0 0],.int .i64 7]) ?_ rfl (RgCPost.nil (hb2'.out.setCell (by simp) _));(simp [results,Tryz.results71,go_sem, *];done))
  ·have hp':¬ 0<((0:Nat):Int):=by omega
   go_wp2_with ((refine bN rfl 226 (.tmp 8) (.tmp 14) rfl w1.heap.size (cQ (fx X 12)) rfl rfl 226 (cQ (List.replicate 12 0)) (az _ rfl) (ci HW.out) (by rw [dp HW.out];rfl) (dU _) ?_;intro W2 hW2 _ hs2 hb2;obtain ⟨hc2,hf2⟩:=aV hb2;have hb2':=Hm ((HB.out.alloc (by omega) _).trans (hb2.mono (by omega)));clear hb2;simp at hs2);have e1:=(ae hW2 n).trans (iN HWn.out));refine (tY _ X _ (au R.out hb2'.out) hn).mono ?_;rintro e w3 ⟨v3,rfl,hown3,hb3⟩;have hs3:=hb3.size;have HB3:=Hm (hb2'.out.trans (hb3.mono (by omega)));have HO3:=Hm hown3
   have d1:w3.cell? ⟨w.heap.size+1,0,none⟩=some (.slice none 0 0):=by rw [hb3.cell (p:=⟨w.heap.size+1,0,none⟩) (by simp;omega),hc2 _ _ k1];go_simp
   have d2:w3.frozen? ⟨w.heap.size+1,0,none⟩=false:=by rw [hb3.frozen (p:=⟨w.heap.size+1,0,none⟩) (by simp;omega),hf2 _ _ k1];go_simp
   obtain ⟨a3',c3',rfl,_⟩:=aC hown3;clear hb3 hown3 hc2 hf2 e1 g0 g1 g2 hW2;go_wp2_with fail;refine (pN n m _ (by omega) hm8).mono ?_;rintro e w4 ⟨v4,rfl,hown4,hb4⟩;have hs4:=hb4.size;have HB4:=Hm (HB3.out.trans (hb4.mono HB3.out.size));have d1:=ah hb4 d1 (by omega);have d2:w4.frozen? ⟨w.heap.size+1,0,none⟩=false:=(hb4.frozen (p:=⟨w.heap.size+1,0,none⟩) (by simp;omega)).trans d2;have HO4:=Hm (bA HO3.out hb4);have hlm:=RgMay.len HM.out;have hls:(cX n m).length=4*m:=eC n m;rcases lT hown4 with ⟨_,h0⟩|⟨g,c3,rfl,hnews⟩
   ·omega
   have HNW:=Hm hnews;clear hnews hb4 hown4 HO3 hls;go_wp2_with (at_builtin;go_loud (refine wpList_append_own _ rfl _ _ 53 rfl W2.heap.size 151 i0 (.agg #[.int .i64 0,.int .i64 0]) 2 16 Tryz.underlying53 hi hi0 hi1 hi2 rfl (by decide) _ _ _ rfl HO4.out ⟨g,0,none⟩ (4*m) c3 ((cX n m).map Sp.cells).flatten rfl ?c0 HNW.out ?c1 ?c2 ?c3 ?c4 ?_))
   case c0=>rw [aO (sz:=2) (ii _),I2,eC]
   case c1=>exact tJ _
   case c2=>unfold maxLen;omega
   case c3=>omega
   case c4=>omega
   intro v' w6 hown' hgrow _
   have hO6:w6.ownsRow (w1.heap.size+1) 151 2 v' (X++cX n m).length ((X++cX n m).map Sp.cells).flatten:=by
    rw [I5,eC,Ij,Ie];exact hown'
   have HO6:=Hm hO6;have hb6:=cM (B:=W2.heap.size) (Hn w4.heap.size w4) (by omega) HO4.out hgrow;rw [hs2] at hb6;have hs6:=hb6.size;have HB6:=Hm (HB4.out.trans (hb6.mono (by omega)));have d1:=ah hb6 d1 (by omega);have d2:w6.frozen? ⟨w.heap.size+1,0,none⟩=false:=(hb6.frozen (p:=⟨w.heap.size+1,0,none⟩) (by simp;omega)).trans d2;obtain ⟨a6,c6,rfl,_⟩:=aC hO6
   have hll:(X++cX n m).length≤1000:=by rw [I5,eC];omega
   obtain ⟨Y,hY⟩:∃ Y,Y=X++cX n m:=⟨_,rfl⟩;rw [← hY] at HO6 hll;have hYL:(X++cX n m).length=Y.length:=by rw [hY]
   rw [hYL];have HY:=Hm hY;clear hown' hgrow hb6 hO6 HO4 HNW hY hYL;go_wp2_with fail;refine (yZ (w1.heap.size+1) _ Y _ (by omega) HO6.out (by omega)).mono ?_;rintro e w7 ⟨rfl,hown7,hb7,hs7,_⟩;have HB7:=Hm (HB6.out.trans (hb7.mono (by omega)));have d1:=ah hb7 d1 (by omega);have d2:w7.frozen? ⟨w.heap.size+1,0,none⟩=false:=(hb7.frozen (p:=⟨w.heap.size+1,0,none⟩) (by simp;omega)).trans d2
   have HN7:Hid (aM (w1.heap.size+1) w7 2 (.slice a6 Y.length c6) ((bO ((gh X).set n m)).map Sp.cells)):=by
    rw [← xG (n:=m) HM.out hn12 HQ.out.symm,← HY.out];exact aD hown7 (by rw [I2];exact (fe Y).length_eq) (ii _)
   clear hown7 hb7 HO6;go_wp2;refine Ip (v:=.tuple #[.agg #[.slice a6 Y.length c6],.int .i64 0]) ?_ rfl ⟨_,rfl,aG (aB HN7.out (by simp;omega) _) (by omega),HB7.out.setCell (by simp) _⟩;simp [results,Tryz.results71,go_sem, *]
theorem mL {X:List Sp} {p:Sp→Bool} {k:Nat} {s:Sp} (hs:s=X.getD k Sp.zero) (hk:k<X.length) (h:p s=true):(X.take (k+1)).filter (fun x=>!p x)=(X.take k).filter (fun x=>!p x):=by
 exact Q131
theorem rA {X:List Sp} {p:Sp→Bool} {k:Nat} {s:Sp} (hs:s=X.getD k Sp.zero) (hk:k<X.length) (h:p s=false):(X.take (k+1)).filter (fun x=>!p x)=(X.take k).filter (fun x=>!p x)++[s]:=by
 exact Q131
theorem Bj {X Y:List Sp} {j:Nat} (h:Y.drop j=X.drop j):Y.getD j Sp.zero=X.getD j Sp.zero:=by
 have:=congrArg (fun l=>l.getD 0 Sp.zero) h;simpa [List.getD,List.getElem?_drop] using this
theorem rf {Y:List Sp} {i:Nat} (s:Sp) (h:i<Y.length):(Y.set i s).take (i+1)=Y.take i++[s]:=by
 rw [I3 (by simpa using h),List.take_set,List.set_eq_of_length_le (by rw [Ib];omega)];simp
theorem Cg {Y:List Sp} {i j:Nat} (s:Sp) (h:i<j):(Y.set i s).drop j=Y.drop j:=by
 rw [List.drop_set,if_pos h]
theorem na (Y:List Sp) {k:Nat} (h:k<Y.length):(Y.map Sp.cells).flatten[k*2]?=some (.int .i64 (Y.getD k Sp.zero).hash)∧(Y.map Sp.cells).flatten[k*2+1]?=some (.int .i64 (Y.getD k Sp.zero).backend):=by
 have e:Y=Y.take k++Y.getD k Sp.zero :: Y.drop (k+1):=by
  have:Y.getD k Sp.zero=Y[k]:=by simp [List.getD,h]
  rw [this,List.getElem_cons_drop,Ig]
 have:=Bf (Y.take k) (Y.drop (k+1)) (Y.getD k Sp.zero) (k:=k) (by rw [Ib];omega);rw [← e] at this;exact this
theorem ry (Y:List Sp) (i:Nat):(Y.map Sp.cells).flatten.take (i*2)=((Y.map Sp.cells).take i).flatten:=by
 induction Y generalizing i with
 | nil=>simp
 | cons y Y ih=>
  cases i with
  | zero=>simp
  | succ i=>
   simp only [List.map_cons,List.flatten_cons,List.take_succ_cons,Sp.cells,List.cons_append,List.nil_append];rw [show (i+1)*2=i*2+1+1 by omega,List.take_succ_cons,List.take_succ_cons];have:=ih i;rw [this]
def DelRel (B:Nat) (w wr:World) (g cap:Nat) (X:List Sp) (p:Sp→Bool) (i j:Nat):Prop:=Below B w wr∧∃ Y:List Sp,Y.length=X.length∧Y.take i=(X.take j).filter (fun x=>!p x)∧Y.drop j=X.drop j∧wr.ownsRow B 151 2 (.slice (some ⟨g,0,none⟩) X.length cap) X.length (Y.map Sp.cells).flatten
def GO (B:Nat) (w:World) (Z:List Sp) (e:Ending) (w':World):Prop:=∃ v,e=.returned v∧w'.ownsRow B 151 2 v Z.length (Z.map Sp.cells).flatten∧Below B w w'
theorem delSp (B N:Nat) (cp:Addr) (hN:∀ args w,(callFunc N args).run Tryz.prog w=.ok (.enter N args) w) (p:Sp→Bool) (v:Value) (X:List Sp) (w:World) (hB:B≤w.heap.size) (hown:w.ownsRow B 151 2 v X.length (X.map Sp.cells).flatten) (hn:X.length≤4611686018427387903)
  (hf:∀ x∈X,∀ w',Below B w w'→Calls Tryz.prog N #[Sp.agg x,.pointer (some cp)] w' fun e w''=>e=.returned (.bool (p x))∧Below w'.heap.size w' w'') :
  Calls Tryz.prog 110 #[v,.func (.func N) #[] #[.pointer (some cp)]] w (GO B w (X.filter fun x=>!p x)):=by
 obtain ⟨i0,hi,hi0,hi1,hi2⟩:=info_parts ku
 have hr:=fL hown (by rw [I2]) (ii _)
 have K:=Hm (AH N cp hN p v X w hr hn (fun x hx w' hb=>hf x hx w' (hb.mono hB)))
 have HF:=Hm hf
 have HO:=Hm hown
 clear hf hr
 rcases bJ p X Sp.zero with ⟨he,hnone⟩|⟨i,hil,he,hpi,hbef⟩
 ·rw [he] at K;have HX:=Hm (show X.filter (fun x=>!p x)=X from List.filter_eq_self.2 fun x hx=>by rw [hnone x hx];rfl);obtain ⟨a,c,rfl,_⟩:=aC hown;clear hown hnone he;go_enter Tryz.func110,Tryz.ntmps110;go_wp2_with fail;refine K.out.mono ?_;rintro e w1 ⟨rfl,hb1⟩;have HB1:=Hm (hb1.mono hB);have HO1:=Hm (bA HO.out hb1);clear hb1;go_wp2;go_ret;exact ⟨_,rfl,by rw [HX.out];exact HO1.out,HB1.out⟩
 ·rw [he] at K;rcases lT hown with ⟨_,h0⟩|⟨g,c,rfl,_⟩
  ·omega
  have hgB:=(hown.lt _ rfl).1;have HE:=Hm (show (X.take i).filter (fun x=>!p x)=X.take i from List.filter_eq_self.2 fun x hx=>by rw [hbef x hx];rfl);have HPI:=Hm hpi;clear hown hbef he hpi;go_enter Tryz.func110,Tryz.ntmps110;go_wp2_with fail;refine K.out.mono ?_;rintro e w1 ⟨rfl,hb1⟩;have HB1:=Hm (hb1.mono hB);have HO1:=Hm (bA HO.out hb1)
  have hm1:((i:Int) == -1)=false:=by rw [beq_eq_false_iff_ne];omega
  clear hb1 HO K;go_wp2_with fail;go_loopw [5,6] (fun a b wr=>∃ i j:Nat,a=.int .i64 i∧b=.int .i64 j∧i<j∧j≤X.length∧DelRel B w wr g c X p i j) (fun _ b _=>X.length - (intOf b).toNat)
  case atStart=>exact ⟨i,i+1,rfl,by go_num,by omega,by omega,HB1.out,X,rfl,by rw [mL rfl hil HPI.out,HE.out],rfl,HO1.out⟩
  case round=>
   clear HB1 HO1 HE HPI hm1 hil;obtain ⟨i,j,rfl,rfl,hij,hj,hb,Y,hY,hYt,hYd,hown⟩:=hrel;have HB:=Hm hb;have HO:=Hm hown;have HT:=Hm hYt;have HD:=Hm hYd;have HY:=Hm hY;have hYl:Y.length≤X.length:=by omega
   have hYl2:X.length≤Y.length:=by omega
   have gl:=(hown.lt _ rfl).2;clear hb hYt hYd hY;rcases (show j<X.length∨j=X.length by omega) with hlt|rfl
   ·have hlt':(j:Int)<(X.length:Int):=by omega
    have p0:(0:Int)≤(j:Int):=by omega
    have q0:(0:Int)≤(i:Int):=by omega
    have q1:(i:Int)<(X.length:Int):=by omega
    obtain ⟨s,hs⟩:∃ s,s=X.getD j Sp.zero:=⟨_,rfl⟩
    have hsY:Y.getD j Sp.zero=s:=by rw [hs];exact Bj HD.out
    have c0:=na Y (k:=j) (by omega);have c1:=na Y (k:=i) (by omega);rw [hsY] at c0;have hlen:(Y.map Sp.cells).flatten.length=X.length*2:=hown.1;have a0:=(hown.cellAt (j*2) (by omega)).trans c0.1;have a1:=(hown.cellAt (j*2+1) (by omega)).trans c0.2;have HC:=Hm (HF.out s (by rw [hs];exact vT X _ hlt));have HS:=Hm hs;have h2i:i*2+1<X.length*2:=by omega
    clear hown hs hsY c0 c1 hlen;obtain ⟨s0,s1⟩:=s;simp only [Sp.agg] at HC;simp only at a0 a1;go_wp2_with fail;refine (HC.out _ (HB.out.alloc (by have:=HB.out.size;omega) _)).mono ?_;rintro e w2 ⟨rfl,hb2⟩;have hz2:=hb2.size;simp at hz2;have HB2:=Hm ((HB.out.alloc (by have:=HB.out.size;omega) (.cells #[.int .i64 s0,.int .i64 s1] 151)).trans (hb2.mono (by simp;have:=HB.out.size;omega)));have HO2:=Hm (bA (HO.out.alloc (.cells #[.int .i64 s0,.int .i64 s1] 151)) hb2)
    have v0:w2.cell? ⟨wr.heap.size,0,none⟩=some (.int .i64 s0):=by rw [hb2.cell (p:=⟨wr.heap.size,0,none⟩) (by simp)];go_simp
    have v1:w2.cell? ⟨wr.heap.size,1,none⟩=some (.int .i64 s1):=by rw [hb2.cell (p:=⟨wr.heap.size,1,none⟩) (by simp)];go_simp
    clear hb2 HB HO HC a0 a1;by_cases hp:p ⟨s0,s1⟩=true
    ·have HT2:=Hm (mL HS.out hlt hp);simp only [hp];clear hp;go_wp2;go_roundw
     case rel=>exact ⟨i,j+1,rfl,by go_num,by omega,by omega,HB2.out,Y,HY.out,by rw [HT2.out];exact HT.out,by rw [← List.drop_drop,HD.out,List.drop_drop],HO2.out⟩
     case measure=>simp [intOf];omega
    ·have hp':p ⟨s0,s1⟩=false:=by simpa using hp
     have HT2:=Hm (rA HS.out hlt hp');simp only [hp'];clear hp hp';have c1:=na Y (k:=i) (by omega);have d0:=(HO2.out.cellAt (i*2) (by omega)).trans c1.1;have d1:=(HO2.out.cellAt (i*2+1) (by omega)).trans c1.2;have f0:=HO2.out.frozenAt (i*2);have f1:=HO2.out.frozenAt (i*2+1);clear c1;go_wp2;go_roundw
     case measure=>simp [intOf];omega
     case rel=>
      refine ⟨i+1,j+1,by go_num,by go_num,by omega,by omega,(HB2.out.setCell (by simp;omega) _).setCell (by simp;omega) _,Y.set i ⟨s0,s1⟩,by rw [I9];exact HY.out,?_,?_,?_⟩
      ·rw [HT2.out,rf _ (by omega),HT.out]
      ·rw [Cg _ (by omega),← List.drop_drop,HD.out,List.drop_drop]
      ·rw [← yo Y i ⟨s0,s1⟩ (by omega)];exact ((HO2.out.stored _ _).1.stored _ _).1
   ·have hge:¬ ((X.length:Nat):Int)<(X.length:Int):=by omega
    have HZ:=Hm (show Y.take i=X.filter (fun x=>!p x) by rw [HT.out,I7 (Hv _)]);have q0:(0:Int)≤(i:Int):=by omega
    have q1:(i:Int)≤(X.length:Int):=by omega
    clear hown;have q2:i<X.length:=by omega
    have hcap:i<c:=by have:=(tH HO.out).1;omega
    have hcap2:¬ c=i:=by omega
    obtain ⟨W2,hcl,_,_,hb2,hown2⟩:=yw (w:=wr) 53 151 0 (.agg #[.int .i64 0,.int .i64 0]) 2 g X.length c i (c - i) B Tryz.underlying53 hi hi0 rfl (by decide) HO.out (by omega);have HB2:=Hm (HB.out.trans hb2);have HO2:=Hm hown2;clear hb2 hown2;go_wp2_with fail;go_ret
    have hlz:(X.filter (fun x=>!p x)).length=i:=by rw [← HZ.out,Ib];omega
    refine ⟨_,rfl,?_,HB2.out⟩;rw [hlz,← HZ.out,List.map_take,← ry];exact HO2.out
theorem Cr (s:Sp) (b:Int) (q:Nat) (w:World) (h:w.cell? ⟨q,0,none⟩=some (.int .i64 b)):Calls Tryz.prog 111 #[Sp.agg s,.pointer (some ⟨q,0,none⟩)] w fun e w'=>e=.returned (.bool (s.backend == b))∧Below w.heap.size w w':=by
 have hq:=bR h;obtain ⟨x,y⟩:=s;unfold Sp.agg;simp only;go_enter Tryz.func111,Tryz.ntmps111;go_wp2
 all_goals (go_ret;exact ⟨rfl,Zb⟩)
theorem xL (v:Value) (X:List Sp) (w:World) (b:Int) (L:List Sp) (c:Int) (r:aI w 2 v (X.map Sp.cells)) (hn:X.length*16≤140737488351232) (ha:ul X b L c):Calls Tryz.prog 66 #[.agg #[v],.int .i64 b] w (RgCPost w L c):=by
 have R:=Hm r;obtain ⟨a,cp,rfl,_⟩:=aq r;have HA:=Hm ha;clear r ha;go_enter Tryz.func66,Tryz.ntmps66;go_wp2_with fail;refine (jx _ X _ (ai (ai (ai R.out _) _) _) hn).mono ?_;rintro e w1 ⟨W,bo,hW,rfl,h1,h2,hb⟩;have HB:=Hm (((((Hn w.heap.size w).alloc (Hv _) _).alloc (by simp) _).alloc (by simp;omega) _).trans (hb.mono (by simp;omega)));have hz1:=hb.size;simp at hz1;have k0:w.heap.size<w1.heap.size:=by omega
 have k1:w.heap.size+1<w1.heap.size:=by omega
 have k2:w.heap.size+1+1<w1.heap.size:=by omega
 have g0:w1.cell? ⟨w.heap.size,0,none⟩=some (.slice a X.length cp):=by rw [hb.cell (p:=⟨w.heap.size,0,none⟩) Zs];go_simp
 have g3:w1.cell? ⟨w.heap.size+1,0,none⟩=some (.int .i64 b):=by rw [hb.cell (p:=⟨w.heap.size+1,0,none⟩) Zs];go_simp
 have g1:w1.cell? ⟨w.heap.size+1+1,0,none⟩=some (.slice none 0 0):=by rw [hb.cell (p:=⟨w.heap.size+1+1,0,none⟩) Zs];go_simp
 have g2:w1.frozen? ⟨w.heap.size+1+1,0,none⟩=false:=by rw [hb.frozen (p:=⟨w.heap.size+1+1,0,none⟩) Zs];go_simp
 have H1:=Hm h1;have H2:=Hm h2;have HW:=Hm hW;clear hb h1 h2 hW;rcases HA.out with ⟨hm,rfl,rfl⟩|⟨hm,hs,rfl,rfl⟩|⟨n,hm,rfl,hn12,hs⟩
 ·have:=H2.out hm;subst this;clear hm HA;go_wp2_with (refine bN rfl 226 (.tmp 6) (.tmp 12) rfl w1.heap.size (cQ W) rfl rfl 226 (cQ (List.replicate 12 0)) (az _ rfl) (ci HW.out) (by rw [dp HW.out];rfl) (dU _) ?_;intro W2 hW2 _ hs2 hb2;obtain ⟨hc2,hf2⟩:=aV hb2;have hb2':=Hm ((HB.out.alloc (by omega) _).trans (hb2.mono (by omega)));clear hb2;simp at hs2)
  all_goals (refine Ip (v:=.tuple #[.agg #[.slice none 0 0],.int .i64 6]) ?_ rfl (RgCPost.nil (hb2'.out.setCell Zs _));(simp [results,Tryz.results66,go_sem, *];done))
 ·obtain ⟨rfl,rfl⟩:=H1.out hm;clear hm HA;rcases (show b<0∨(¬ b<0∧12≤b) by omega) with h|⟨h,ha⟩
  all_goals
   clear hs
   go_wp2_with (refine bN rfl 226 (.tmp 6) (.tmp 12) rfl w1.heap.size (cQ (fx X 12)) rfl rfl 226 (cQ (List.replicate 12 0)) (az _ rfl) (ci HW.out) (by rw [dp HW.out];rfl) (dU _) ?_;intro W2 hW2 _ hs2 hb2;obtain ⟨hc2,hf2⟩:=aV hb2;have hb2':=Hm ((HB.out.alloc (by omega) _).trans (hb2.mono (by omega)));clear hb2;simp at hs2)
   all_goals (refine Ip (v:=.tuple #[.agg #[.slice none 0 0],.int .i64 8]) ?_ rfl (RgCPost.nil (hb2'.out.setCell Zs _));(simp [results,Tryz.results66,go_sem, *];done))
 ·obtain ⟨rfl,rfl⟩:=H1.out hm;have hWn:(fx X 12)[n]?=some (((gh X).getD n 0:Nat):Int):=by rw [jj X 12 hn12,if_pos hn12,kH X hn12]
  have HWn:=Hm hWn;have HM:=Hm hm;have a1:¬ (n:Int)<0:=by omega
  have a2:¬ 12≤(n:Int):=by omega
  have a5:(n:Int)<12:=by omega
  have a6:0≤(n:Int):=by omega
  obtain ⟨q,hq⟩:∃ q,q=(gh X).getD n 0:=⟨_,rfl⟩;rw [← hq] at HWn hs;clear hm hWn HA hq;rcases hs with ⟨rfl,rfl,rfl⟩|⟨hp,rfl,rfl⟩
  ·go_wp2_with ((refine bN rfl 226 (.tmp 6) (.tmp 12) rfl w1.heap.size (cQ (fx X 12)) rfl rfl 226 (cQ (List.replicate 12 0)) (az _ rfl) (ci HW.out) (by rw [dp HW.out];rfl) (dU _) ?_;intro W2 hW2 _ hs2 hb2;obtain ⟨hc2,hf2⟩:=aV hb2;have hb2':=Hm ((HB.out.alloc (by omega) _).trans (hb2.mono (by omega)));clear hb2;simp at hs2);have e1:=(ae hW2 n).trans (iN HWn.out))
   all_goals (refine Ip (v:=.tuple #[.agg #[.slice none 0 0],.int .i64 8]) ?_ rfl (RgCPost.nil (hb2'.out.setCell Zs _));(simp [results,Tryz.results66,go_sem, *];done))
  ·have hp1:((q:Int) == 0)=false:=by rw [beq_eq_false_iff_ne];omega
   have hp2:¬ (q:Int)=0:=by omega
   go_wp2_with ((refine bN rfl 226 (.tmp 6) (.tmp 12) rfl w1.heap.size (cQ (fx X 12)) rfl rfl 226 (cQ (List.replicate 12 0)) (az _ rfl) (ci HW.out) (by rw [dp HW.out];rfl) (dU _) ?_;intro W2 hW2 _ hs2 hb2;obtain ⟨hc2,hf2⟩:=aV hb2;have hb2':=Hm ((HB.out.alloc (by omega) _).trans (hb2.mono (by omega)));clear hb2;simp at hs2);have e1:=(ae hW2 n).trans (iN HWn.out));have eg:∀ args w,(callFunc 111 args).run Tryz.prog w=.ok (.enter 111 args) w:=enters_of Tryz.func111 (by kernel_rfl) rfl;have EG:=Hm eg;clear eg;refine (tY _ X _ (au R.out hb2'.out) hn).mono ?_;rintro e w3 ⟨v3,rfl,hown3,hb3⟩;have hs3:=hb3.size;have HB3:=Hm (hb2'.out.trans (hb3.mono (by omega)));have HO3:=Hm hown3
   have d0:w3.cell? ⟨w.heap.size+1,0,none⟩=some (.int .i64 (n:Int)):=by rw [hb3.cell (p:=⟨w.heap.size+1,0,none⟩) (by simp;omega),hc2 _ _ k1];go_simp
   have d1:w3.cell? ⟨w.heap.size+1+1,0,none⟩=some (.slice none 0 0):=by rw [hb3.cell (p:=⟨w.heap.size+1+1,0,none⟩) (by simp;omega),hc2 _ _ k2];go_simp
   have d2:w3.frozen? ⟨w.heap.size+1+1,0,none⟩=false:=by rw [hb3.frozen (p:=⟨w.heap.size+1+1,0,none⟩) (by simp;omega),hf2 _ _ k2];go_simp
   obtain ⟨a3',c3',rfl,_⟩:=aC hown3;have hlm:=RgMay.len HM.out;clear hb3 hown3 hc2 hf2 e1 g0 g1 g2 g3 hW2;go_wp2_with fail;refine (delSp W2.heap.size 111 ⟨w.heap.size+1,0,none⟩ EG.out (fun s=>s.backend == (n:Int)) _ X _ hs3 HO3.out (by omega) (fun x _ w' hb'=>Cr x n _ w' (ah hb' d0 (by omega)))).mono ?_;rintro e w4 ⟨v4,rfl,hown4,hb4⟩;have hs4:=hb4.size;have HB4:=Hm (HB3.out.trans (hb4.mono (by omega)));have d1:=ah hb4 d1 (by omega);have d2:w4.frozen? ⟨w.heap.size+1+1,0,none⟩=false:=(hb4.frozen (p:=⟨w.heap.size+1+1,0,none⟩) (by simp;omega)).trans d2;rw [tq HM.out hn12] at hown4;have HN4:=Hm (aD hown4 (by rw [I2]) (ii _));obtain ⟨a4,c4,rfl,_⟩:=aC hown4;clear hown4 hb4 HO3 d0;go_wp2;refine Ip (v:=.tuple #[.agg #[.slice a4 (bO ((gh X).set n 0)).length c4],.int .i64 0]) ?_ rfl ⟨_,rfl,aG (aB HN4.out (by simp;omega) _) (by omega),HB4.out.setCell Zs _⟩;simp [results,Tryz.results66,go_sem, *]
end
end Go.Proofs.YtfliffgmeobclaaGreat
