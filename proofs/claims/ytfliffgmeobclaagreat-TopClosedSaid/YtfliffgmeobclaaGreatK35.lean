/- Texts of the row's proof. Conditions: none. -/
import Derived.Test.YtfliffgmeobclaaGreatK22
import Derived.Test.YtfliffgmeobclaaGreatK31
import Derived.Test.YtfliffgmeobclaaGreatK34
namespace Go.Proofs.YtfliffgmeobclaaGreat
set_option maxRecDepth 100000
set_option maxHeartbeats 8000000
section
open Go.RowKit
theorem Q2 {p:Prop} (h:p:=by
 rintro e w5 hc5;obtain ⟨S5,V5,vo5,rfl,G5,_,f5,_⟩:=hc5;obtain ⟨a5,c5,rfl,hD⟩:=DoG.of (w:=w) G5 hN3 HG.out.2.2.2.2 HG.out.2.2.2.1 HG.out.2.2.1 f5 HG.out.2.1
 try rw [List.nil_append] at hD
 rw [← hR1] at hD;have HD:=Hu hD.drew;have HD0:=Hu (show w5.heap[w3.heap.size]?=some (.cells (dj R.1 V5++[Value.slice a5 R.2.length c5]).toArray 113 (0,0))∧w5.cell? ⟨w3.heap.size,26,none⟩=some (.slice a5 R.2.length c5) from ⟨hD.hp,by rw [ae hD.hp 26];rfl⟩);have HNe:=Hu (show w3.heap.size≠w.heap.size+2 by have:=hD.ne;omega);have l5:=lt_of_block hD.hp;have x26:=HD0.out.2;clear G5 f5 hD hR1 y0 l3;go_wp2_with fail;refine Zr (fun w':World=>w'.heap[w3.heap.size]?=some (.cells (dj R.1 V5++[Value.slice a5 R.2.length c5]).toArray 113 (0,0))∧w'.cell? ⟨w3.heap.size,26,none⟩=some (.slice a5 R.2.length c5)) (fun hHeld=>?_) (by (try dsimp only);(first|exact HD0.out|exact ⟨b8 HD0.out.1 HNe.out,bB HD0.out.2 HNe.out⟩));refine df 0 ?_;refine Zt 2 ?_;refine eP 4 ?_;refine Z1 3 (fun K hK=>?_);rw [if_pos (by rfl)];(first|(refine wp_load_mid 63 (.tmp 55) rfl w3.heap.size 0 rfl (dj R.1 V5) _ (uV HD.out.hp) Tryz.underlying63 rfl (by kernel_rfl) ?_)|(refine IA 63 (.tmp 4) (.tmp 56) rfl (w.heap.size+2) (dj R.1 V5).toArray rfl rfl 63 bP HD.out.hz (by kernel_rfl) rfl (km HD.out.wk) ?_));refine Zk hK (hS:=by (try dsimp only);(first|exact HD0.out|exact ⟨b8 HD0.out.1 HNe.out,bB HD0.out.2 HNe.out⟩)) fun hHeld=>?_;clear hK K;refine Z1 8 (fun K hK=>?_);rw [if_pos (by rfl)];(first|(refine wp_load_mid 63 (.tmp 55) rfl w3.heap.size 0 rfl (dj R.1 V5) _ (uV HD.out.hp) Tryz.underlying63 rfl (by kernel_rfl) ?_)|(refine IA 63 (.tmp 4) (.tmp 56) rfl (w.heap.size+2) (dj R.1 V5).toArray rfl rfl 63 bP HD.out.hz (by kernel_rfl) rfl (km HD.out.wk) ?_));refine Zk hK (hS:=by (try dsimp only);(first|exact HD0.out|exact ⟨b8 HD0.out.1 HNe.out,bB HD0.out.2 HNe.out⟩)) fun hHeld=>?_;clear hK K;refine df 9 ?_;refine Zd ?_;go_wp2_with fail;refine Ix (v:=.tuple #[.agg (dj R.1 V5).toArray,.slice a5 R.2.length c5,.int .i64 0]) ?_ rfl ?_
 ·exact mm Tryz.results21 _ _ (w.heap.size+2) 63 (dj R.1 V5).toArray (0,0) _ _ _ rfl rfl rfl (aZ HD.out.hz) Tryz.underlying63 rfl (by kernel_rfl)
 ·exact ⟨V5,a5,c5,rfl,(HD.out.fin _).1,(HD.out.fin _).2.1,(HD.out.fin _).2.2⟩):p:=h
theorem Q4 {p:Prop} (h:p:=by
 have HAz:=Hu (HA1.out.below hbz);have hpz:=HAz.out.plt;have d5:=ah hbz d5 k1;have x8:=ah hbz x8 hp1;by_cases hre:f5=X.cf.retries
 ·subst hre;go_wp2_with fail;refine Zr (fun w':World=>w'.cell? ⟨p,8,none⟩=some (.int .i64 X.cf.retries)∧w'.cell? ⟨g,i*7+5,none⟩=some (.int .i64 X.cf.retries)) (fun hHeld=>?_);refine ep 0 ?_;refine eP 8 ?_;refine df 12 ?_;refine Zt 14 ?_;refine Zd ?_;refine aY _ (fun wy hwy=>?_)
  have hby:Below wz.heap.size wz wy:=by rw [hwy];exact Hx (Hv _ _)
  have HAy:=Hu (HAz.out.below hby);clear hwy;clear hby hbz hnz;go_wp2_with (go_at_call 73;refine (ip HAy.out.g i hi1 (by rw [HEf1.out];omega) ⟨6,0,0,0,0,0,why⟩ _ HF1.out _ (HM1.out.drop HFm1.out) (HM1.out.tabd HFm1.out) HM1.out.bk HM1.out.wh HM1.out.wn (by omega)).mono ?_;rintro e w3 hc3;obtain ⟨S3,V3,vo3,rfl,A3,hq3,hz3,hb3⟩:=HAy.out.call hc3;clear hc3);have HA3:=Hu A3;clear A3;go_wp2_with fail;refine Ix (v:=.tuple #[]) (by simp [results,Tryz.results74,go_sem]) rfl ?_;rw [DN HF.out why (Or.inl rfl),Id,← HX1.out,Bp HF1.out,Bo HF1.out];exact HA3.out.fin trivial
 ·have hne:(f5 == X.cf.retries)=false:=by simpa using hre
  go_wp2_with fail;refine Zr (fun w':World=>w'.cell? ⟨p,8,none⟩=some (.int .i64 X.cf.retries)∧w'.cell? ⟨g,i*7+5,none⟩=some (.int .i64 f5)) (fun hHeld=>?_);refine ep 0 ?_;refine eP 8 ?_;refine df 12 ?_;refine Zt 14 ?_;refine Zd ?_;refine aY _ (fun wy hwy=>?_)
  have hby:Below wz.heap.size wz wy:=by rw [hwy];exact Hx (Hv _ _)
  have HAy:=Hu (HAz.out.below hby);clear hwy;have hbz0:=hbz.size;have hzy:Below w1.heap.size w1 wy:=hbz.trans (hby.mono hbz.size);have hny:=aj hby hnz (lt_of_block hnz);have d5:=ah hby d5 (by have:=hbz0;omega);have d0:=ah hzy d0 k1;have d1:=ah hzy d1 k1;have d2:=ah hzy d2 k1;have d3:=ah hzy d3 k1;have d6:=ah hzy d6 k1;have x7:=ah hzy x7 hp1
  have gy:g<wy.heap.size:=by have:=hzy.size;omega
  have py:p<wy.heap.size:=HAy.out.plt;have hzy1:=hzy.size;clear hbz hby hnz hzy x10 x11 x12 x23;obtain ⟨pb,pc,hpw⟩:∃ pb pc,dC X1 ky (s:Int)=(pb,pc):=⟨_,_,rfl⟩;have HPk:=Hu (show ux X1 ky (s:Int) pb pc from by have:=HM1.out.pick ky (HM1.out.butF HFm1.out);simp only at this;rw [hpw] at this;exact this);have HPw:=Hu hpw;clear hpw;go_wp2_with fail;refine Zr (fun w':World=>w'.cell? ⟨g,i*7,none⟩=some (.int .i64 (s:Int))∧w'.cell? ⟨g,i*7+2,none⟩=some (.int .i64 (ky:Int))) (fun hHeld=>?_);refine ep 0 ?_;refine df 8 ?_;refine Z1 10 (fun K hK=>?_);go_simp;(go_at_call 60;refine (pY (fM HAy.out.g.gr Zb) ky (s:Int) hky HM1.out.ring (HM1.out.load (by have:=hs;rw [HX1.out];simp only [bU];omega)) (by rw [HEf1.out];omega) _ _ HPk.out).mono ?_;rintro e w3 ⟨rfl,hb3⟩;have hz3:=hb3.size;(try simp at hz3);(try dsimp only));(try go_wp2_with fail);refine Zk hK fun hHeld=>?_;clear hK K;refine eP 11 ?_;refine Zt 15 ?_;refine Zd ?_;have h3:Below wy.heap.size wy w3:=I0 (Hx (Hv _ _)) (hb3.mono (by simp));have HAy:=Hu (HAy.out.below h3)
  have hnor:¬ (f5=X.cf.retries∨X.tok<X.cf.bd):=by rintro (e|e);exact hre e;omega
  have HNr:=Hu hnor;clear hnor;by_cases hpc:pc=0
  ·subst hpc;have HPw2:=Hu (show (dC (bU X (Int.toNat (bk:Int)) true) (Int.toNat (ky:Int)) (s:Int))=(pb,0) from by rw [Id,Id,← HX1.out];exact HPw.out);have hpb:=zm HM1.out (HM1.out.butF HFm1.out) (key:=ky) (by simp only;rw [HPw.out]);simp only at hpb;rw [HPw.out] at hpb;obtain ⟨pb0,pb1⟩:0≤pb∧pb≤11:=hpb;have d0:=ah h3 d0 gy;have d1:=ah h3 d1 gy;have d2:=ah h3 d2 gy;have d3:=ah h3 d3 gy;have d5:=ah h3 d5 gy;have d6:=ah h3 d6 gy;have x7:=ah h3 x7 py;have hn3:=aj h3 hny (lt_of_block hny);have n0:w3.cell? ⟨nb,0,none⟩=some (.int .i64 (X.tok - X.cf.bd)):=ae hn3 0;have x23:=HAy.out.c 23 (v:=.int .i64 X1.tok) rfl;have xf:∀ n,w3.frozen? ⟨p,n,none⟩=false:=fun n=>HAy.out.free n
   have g3:g<w3.heap.size:=by have:=h3.size;omega
   have p3:p<w3.heap.size:=HAy.out.plt;clear h3 hb3;go_wp2_with fail;refine aY _ (fun wt hwt=>?_);have HAt:=Hu (show GA B p w S wt { X1 with tok:=X.tok - X.cf.bd } O S1 V1 vo1 from by rw [hwt];exact HAy.out.cell 23 (.int .i64 (X.tok - X.cf.bd)) { X1 with tok:=X.tok - X.cf.bd } V1 rfl rfl rfl rfl rfl rfl { HAy.out.g.ro with })
   have ht:∀ b,b≠p→wt.heap[b]?=w3.heap[b]?:=fun b hb=>by rw [hwt];exact I2 _ _ _ _ hb
   have htz:wt.heap.size=w3.heap.size:=by rw [hwt];simp
   have tg:∀ j v,w3.cell? ⟨g,j,none⟩=some v→wt.cell? ⟨g,j,none⟩=some v:=fun j v e=>(I8 (w:=w3) (w':=wt) (a:=⟨g,j,none⟩) (ht g hg2)).trans e;have d0:=tg _ _ d0;have d1:=tg _ _ d1;have d3:=tg _ _ d3;have d5:=tg _ _ d5;have d6:=tg _ _ d6
   have x7:wt.cell? ⟨p,7,none⟩=some (.int .i64 X.cf.connect):=by have:=HAt.out.c 7 (v:=.int .i64 X1.cf.connect) rfl;rw [HEc1.out] at this;exact this
   have x17:=HAt.out.c 17 (v:=V1.t) rfl;obtain ⟨at_,ct,et,_⟩:=aq HAt.out.g.gr.1.ta.1;rw [et] at x17;have HTb:=Hu HAt.out.g.gr.1.ta.1;rw [et] at HTb;have gt:g<wt.heap.size:=by omega
   have pt:p<wt.heap.size:=by omega
   have xf:∀ n,wt.frozen? ⟨p,n,none⟩=false:=fun n=>HAt.out.free n;clear hwt ht htz tg n0 hn3 x23 et d2;obtain ⟨Y,hY⟩:∃ Y,Y=X1.tab.set (s:Int).toNat ⟨f1,true,(ky:Int),pb⟩:=⟨_,rfl⟩;have HMv:=Hu (show uv X1.tab (s:Int) f1 pb Y 0 from by rw [hY];exact HM1.out.move HFm1.out pb0 pb1)
   have hYm:dN Y:=by rw [hY];exact oX HM1.out.tb _ (by unfold dw;rw [if_pos rfl];simp only;omega)
   have HY:=Hu hY;have HYm:=Hu hYm;clear hY hYm;refine Zr (fun w':World=>w'.cell? ⟨g,i*7,none⟩=some (.int .i64 (s:Int))∧w'.cell? ⟨g,i*7+1,none⟩=some (.int .i64 f1)) (fun hHeld=>?_);refine eP 0 ?_;refine Zt 4 ?_;refine eP 6 ?_;refine Zt 10 ?_;refine Z1 5 (fun K hK=>?_);go_simp;refine Zk hK fun hHeld=>?_;clear hK K;refine Z1 11 (fun K hK=>?_);go_simp;(go_at_call 123;refine (At X1.tab _ _ _ _ 0 _ _ (au HTb.out Zb) HMv.out).mono ?_;rintro e w4 ⟨v4,rfl,R4,hb4⟩;obtain ⟨a4,c4,rfl,_⟩:=aq R4.1;have hz4:=hb4.size;(try simp at hz4);have bw4:Below wt.heap.size wt w4:=I0 (Hx (Hv wt.heap.size wt)) (hb4.mono (by simp));have x17:=ah bw4 x17 pt;have xf:∀ n,w4.frozen? ⟨p,n,none⟩=false:=(fun n=>(bw4.frozen (p:=⟨p,n,none⟩) pt).trans (xf n));(try dsimp only));(try go_wp2_with fail);refine Zk hK fun hHeld=>?_;clear hK K;refine eP 12 ?_;refine df 16 ?_;refine Z1 18 (fun K hK=>?_);go_simp;refine Zk hK fun hHeld=>?_;clear hK K;refine Zd ?_;refine aY _ (fun w5 hw5=>?_);have A4:=HAt.out.below bw4;have HA5:=Hu (show GA B p w S w5 { X1 with tok:=X.tok - X.cf.bd,tab:=Y } O S1 { V1 with t:=.slice a4 Y.length c4 } vo1 from by rw [hw5];exact A4.cell 17 (.slice a4 Y.length c4) { X1 with tok:=X.tok - X.cf.bd,tab:=Y } { V1 with t:=.slice a4 Y.length c4 } rfl rfl rfl rfl rfl rfl { A4.g.ro with ta:=dm HAt.out.g R4 (by simp) });clear A4 hw5 x17 xf d0 d1 d3 d5 d6 x7 hb4 bw4 R4 HTb;obtain ⟨_,q1,q2,q3,q4,q5⟩:=HA5.out.flow HEv1.out (X:={ X1 with tok:=X.tok - X.cf.bd,tab:=Y }) hi1 HF1.out;have d3:w5.cell? ⟨g,i*7+3,none⟩=some (.int .i64 (bk:Int)):=q5 3 (by omega);have d5:w5.cell? ⟨g,i*7+5,none⟩=some (.int .i64 f5):=q5 5 (by omega)
   have x7:w5.cell? ⟨p,7,none⟩=some (.int .i64 X.cf.connect):=by have:=HA5.out.c 7 (v:=.int .i64 X1.cf.connect) rfl;rw [HEc1.out] at this;exact this
   have p5:p<w5.heap.size:=HA5.out.plt;clear q5;go_wp2_with fail;obtain ⟨w6,hw6⟩:∃ w6,w6=(w5.setCell ⟨g,i*7+3,none⟩ (.int .i64 pb)).setCell ⟨g,i*7+5,none⟩ (.int .i64 (f5+1)):=⟨_,rfl⟩;rw [← hw6];have A6:=(HA5.out.flset HEv1.out (i*7+3) (.int .i64 pb) (X1.flows.set i ⟨(s:Int),f1,(ky:Int),pb,f4,f5,f6⟩) (by simp) (nJ hi1 HF1.out 3 (by omega) (.int .i64 pb) ⟨(s:Int),f1,(ky:Int),pb,f4,f5,f6⟩ rfl));have A6:=(A6.flset HEv1.out (i*7+5) (.int .i64 (f5+1)) ((X1.flows.set i ⟨(s:Int),f1,(ky:Int),pb,f4,f5,f6⟩).set i ⟨(s:Int),f1,(ky:Int),pb,f4,f5+1,f6⟩) (by simp) (nJ (by simpa using hi1) (qJ hi1 _) 5 (by omega) (.int .i64 (f5+1)) ⟨(s:Int),f1,(ky:Int),pb,f4,f5+1,f6⟩ rfl));rw [← hw6,List.set_set] at A6;simp only at A6;have HA6:=Hu A6;obtain ⟨_,q1,q2,q3,q4,q5⟩:=HA6.out.flow HEv1.out (i:=i) (by simpa using hi1) (qJ hi1 ⟨(s:Int),f1,(ky:Int),pb,f4,f5+1,f6⟩);have d0:w6.cell? ⟨g,i*7,none⟩=some (.int .i64 (s:Int)):=q5 0 (by omega);have d6:w6.cell? ⟨g,i*7+6,none⟩=some (.int .i64 f6):=q5 6 (by omega);have hcn:=HX.out.cf.1.1;have hn1:=HM1.out.n1
   have htm:dJ ⟨X1.now+X.cf.connect,(s:Int)⟩ X1.now:=by unfold dJ;simp only;have:=HX.out.tb.2.1;omega
   have HTm:=Hu htm;clear A6 hw6 q5 d3 d5 x7 htm hcn hn1;refine (mp HA6.out.g g (i*7) (s:Int) X.cf.connect (X1.flows.set i ⟨(s:Int),f1,(ky:Int),pb,f4,f5+1,X1.now+X.cf.connect⟩) _ HA6.out.g.sp q1 hg2 d0 f6 d6 (q4 _) (fun w' X' V' gG ef ev _ _=>mW gG (by rw [ev];exact HEv1.out) (i*7+6) _ _ (by rw [ef];simp) (by rw [ef];have:=nJ (F:=X1.flows.set i ⟨(s:Int),f1,(ky:Int),pb,f4,f5+1,f6⟩) (i:=i) (by simpa using hi1) (qJ hi1 _) 6 (by omega) (.int .i64 (X1.now+X.cf.connect)) ⟨(s:Int),f1,(ky:Int),pb,f4,f5+1,X1.now+X.cf.connect⟩ rfl;rw [List.set_set] at this;exact this)) HM1.out.wh HM1.out.wn HTm.out).mono ?_;rintro e w7 ⟨V7,rfl,G7,hK7,hF7,_⟩;have HA7:=Hu (HA6.out.same G7 hF7)
   have ev7:V7.f=.slice (some ⟨g,0,none⟩) X.flows.length cfl:=by rw [hK7.1];exact HEv1.out
   obtain ⟨_,k1,k2,k3,k4,k5⟩:=HA7.out.flow ev7 (i:=i) (by simpa using hi1) (qJ hi1 ⟨(s:Int),f1,(ky:Int),pb,f4,f5+1,X1.now+X.cf.connect⟩);have d0:w7.cell? ⟨g,i*7,none⟩=some (.int .i64 (s:Int)):=k5 0 (by omega);have d1:w7.cell? ⟨g,i*7+1,none⟩=some (.int .i64 f1):=k5 1 (by omega);have p7:p<w7.heap.size:=HA7.out.plt;have hXe:=Hu (show iJ X1 i pb={ X1 with tok:=X.tok - X.cf.bd,tab:=Y,flows:=X1.flows.set i ⟨(s:Int),f1,(ky:Int),pb,f4,f5+1,X1.now+X.cf.connect⟩,lists:=jE X1.now X1.lists (s:Int) X.cf.connect } from by unfold iJ;rw [HF1.out,HEt1.out,HEc1.out,HY.out]);have HEv7:=Hu ev7;have hi7:i<(X1.flows.set i ⟨(s:Int),f1,(ky:Int),pb,f4,f5+1,X1.now+X.cf.connect⟩).length:=by simpa using hi1
   have HF7:=Hu (qJ hi1 ⟨(s:Int),f1,(ky:Int),pb,f4,f5+1,X1.now+X.cf.connect⟩);have l0:0<7:=by omega
   have l1:1<7:=by omega
   clear G7 hK7 hF7 ev7 k5;go_wp2_with fail;refine Zr (fun w':World=>w'.cell? ⟨g,i*7,none⟩=some (.int .i64 (s:Int))∧w'.cell? ⟨g,i*7+1,none⟩=some (.int .i64 f1)) (fun hHeld=>?_) (by (try dsimp only);((go_split_ands;(try dsimp only);(repeat' apply And.intro);all_goals (first|with_reducible assumption|with_reducible exact ce ‹_›|trivial))));refine ep 0 ?_;refine eP 8 ?_;refine Zt 12 ?_;refine Z1 13 (fun K hK=>?_);go_simp;(go_at_call 59;refine (dn (dB HA7.out.g Zb) ⟨5,(s:Int),f1,pb,0,0,0⟩ (by omega)).mono ?_;rintro e w8 hc8;obtain ⟨S8,V8,vo8,rfl,A8,hq8,hz8,hb8⟩:=(HA7.out.below (Hx (Hv _ _))).call hc8;subst hq8;obtain ⟨_,_,_,_,_,k8⟩:=A8.flow HEv7.out hi7 HF7.out;have d0:w8.cell? ⟨g,i*7,none⟩=some (.int .i64 (s:Int)):=k8 0 l0;have d1:w8.cell? ⟨g,i*7+1,none⟩=some (.int .i64 f1):=k8 1 l1;clear hc8 k8;(try dsimp only));(try go_wp2_with fail);refine Zk hK (hS:=by (try dsimp only);((go_split_ands;(try dsimp only);(repeat' apply And.intro);all_goals (first|with_reducible assumption|with_reducible exact ce ‹_›|trivial)))) fun hHeld=>?_;clear hK K;refine Zd ?_;have HA8:=Hu A8;have e:=fail_c HF.out why HNr.out (show (dC (bU X (Int.toNat (bk:Int)) true) (Int.toNat (ky:Int)) (s:Int)).2=0 from by rw [HPw2.out]);simp only at e;rw [HPw2.out,Id,← HX1.out] at e;simp only at e;have HE:=Hu e;clear A8 e d0 d1 k1 k2 k3 k4 hb8;by_cases hbp:(bk:Int)=pb
   ·subst hbp;go_wp2_with fail;refine Ix (v:=.tuple #[]) (by simp [results,Tryz.results74,go_sem]) rfl ?_;rw [HE.out,if_pos (by trivial)];simp only;rw [hXe.out];exact HA8.out.fin trivial
   ·have hne:((bk:Int) != pb)=true:=by simpa using hbp
    have HNe:=Hu hbp;clear hbp;go_wp2_with fail;refine (kg HA8.out.g (bk:Int) HM1.out.bk HYm.out (by rw [Ic,List.length_singleton];omega)).mono ?_;rintro e w9 hc9;obtain ⟨S9,V9,vo9,rfl,A9,hq9,hz9,hb9⟩:=HA8.out.call hc9;have HA9:=Hu A9;clear hc9 A9 hq9 hb9;go_wp2_with fail;refine Ix (v:=.tuple #[]) (by simp [results,Tryz.results74,go_sem]) rfl ?_;rw [HE.out,if_neg HNe.out];simp only;rw [hXe.out,List.append_cons];exact HA9.out.fin trivial
  ·have hne:(pc != 0)=true:=by simpa using hpc
   have HPc:=Hu (show (dC (bU X (Int.toNat (bk:Int)) true) (Int.toNat (ky:Int)) (s:Int)).2≠0 from by rw [Id,Id,← HX1.out,HPw.out];exact hpc);clear h3 hb3 hpc;go_wp2_with (go_at_call 73;refine (ip HAy.out.g i hi1 (by rw [HEf1.out];omega) ⟨6,0,0,0,0,0,4⟩ _ HF1.out _ (HM1.out.drop HFm1.out) (HM1.out.tabd HFm1.out) HM1.out.bk HM1.out.wh HM1.out.wn (by omega)).mono ?_;rintro e w3 hc3;obtain ⟨S3,V3,vo3,rfl,A3,hq3,hz3,hb3⟩:=HAy.out.call hc3;clear hc3);have HA3:=Hu A3;clear A3;go_wp2_with fail;refine Ix (v:=.tuple #[]) (by simp [results,Tryz.results74,go_sem]) rfl ?_;rw [fail_b HF.out why HNr.out HPc.out,Id,← HX1.out,Bp HF1.out,Bo HF1.out];exact HA3.out.fin trivial):p:=h
theorem Q14 {p:Prop} (h:p:=by
 refine ep 0 ?_;refine eP 8 ?_;refine df 12 ?_;refine Zt 14 ?_;refine Zd ?_;refine aY _ (fun wy hwy=>?_)
 have hby:Below wz.heap.size wz wy:=by rw [hwy];exact Hx (Hv _ _)
 have HAy:=Hu (HAz.out.below hby);clear hwy;clear hby hbz hnz;go_wp2_with (go_at_call 73;refine (ip HAy.out.g i hi1 (by rw [HEf1.out];omega) ⟨6,0,0,0,0,0,why⟩ _ HF1.out _ (HM1.out.drop HFm1.out) (HM1.out.tabd HFm1.out) HM1.out.bk HM1.out.wh HM1.out.wn (by omega)).mono ?_;rintro e w3 hc3;obtain ⟨S3,V3,vo3,rfl,A3,hq3,hz3,hb3⟩:=HAy.out.call hc3;clear hc3);have HA3:=Hu A3;clear A3;go_wp2_with fail;refine Ix (v:=.tuple #[]) (by simp [results,Tryz.results74,go_sem]) rfl ?_;rw [DN HF.out why (Or.inr hsp),Id,← HX1.out,Bp HF1.out,Bo HF1.out];exact HA3.out.fin trivial):p:=h
theorem Q27 {p:Prop} (h:p:=by
 refine aY _ (fun wz hwz=>?_);have hba:Below w2.heap.size w2 w3:=I0 (Hx ((Hv _ _).alloc (I3 _) _)) (hb3.mono (by simp));have hle:=I3 w2.heap.size
 have hbz:Below w2.heap.size w2 wz:=by rw [hwz];exact (hba.setCell hle _).setCell hle _
 have h1:aM w2.heap.size wz 6 (.slice a1 L'.length c1) (L'.map Lf.cells):=by rw [hwz];exact aG (aB (aB R1 (by simp) _) (by simp) _) (by simp)
 have h2:aM w2.heap.size wz 5 (.slice a2 R'.length c2) (R'.map Rq.cells):=by rw [hwz];exact aG (aB (aB R2 (by simp) _) (by simp) _) (by simp)
 obtain ⟨nb,hnb⟩:∃ nb,nb=w2.heap.size:=⟨_,rfl⟩
 have hnz:wz.heap[nb]?=some (.cells #[.slice a1 L'.length c1,.slice a2 R'.length c2] 52 (0,0)):=by rw [hwz,hnb];exact aP (j:=1) (aP (j:=0) bxb (.slice a1 L'.length c1)) (.slice a2 R'.length c2)
 rw [← hnb];exact key nb a1 c1 a2 c2 wz ⟨hbz,hnz,h1,h2⟩):p:=h
theorem Q32 {p:Prop} (h:p:=by
 refine aY _ (fun wz hwz=>?_)
 have hbz:Below w2.heap.size w2 wz:=by rw [hwz];exact (I0 (Hx (Hv _ _)) (hb3.mono (by simp))).alloc (by omega) _
 have h1:aM w2.heap.size wz 6 (.slice a1 L'.length c1) (L'.map Lf.cells):=by rw [hwz];exact cR (aG R1 (by simp)) _
 have h2:aM w2.heap.size wz 5 (.slice a2 R'.length c2) (R'.map Rq.cells):=by rw [hwz];exact cR (aG R2 (by simp)) _
 obtain ⟨nb,hnb⟩:∃ nb,nb=w3.heap.size:=⟨_,rfl⟩
 have hnz:wz.heap[nb]?=some (.cells #[.slice a1 L'.length c1,.slice a2 R'.length c2] 52 (0,0)):=by rw [hwz];exact az _ hnb
 rw [← hnb];exact key nb a1 c1 a2 c2 wz ⟨hbz,hnz,h1,h2⟩):p:=h
theorem Q40 {p:Prop} (h:p:=by
 go_wp2_with fail;go_quiet (fail);go_wp2;go_roundw
 case rel=>exact ⟨k+1,by omega,by go_num,HS.out.step (HKe.out (by decide)) (by repeat (first|exact Hv _ _|refine aJ ?_|refine I1 ?_ (by first|omega|(simp;done)|(simp;omega)) _))⟩
 case measure=>simp [intOf];omega):p:=h
theorem Q52 {p:Prop} (h:p:=by
 refine ep 0 ?_;refine eP 8 ?_;refine Zt 12 ?_;refine Zd ?_;go_wp2;go_roundw;(case rel=>(refine ⟨k+1,by omega,by go_num,SD,V4,vo4,?_,?_⟩;(rw [HE.out];exact HA9.out.below (Hx (Hv _ _)));(exact bS HL9.out (Fr.of_below (Hx (Hv _ _)):Fr SD w5 _) (fun _ hx=>Or.inl hx))));(case measure=>(simp [intOf];omega))):p:=h
theorem Q56 {p:Prop} (h:p:=by
 unfold mP
 split
 ·unfold nN gj
  split
  ·simp
  ·split
   ·simp
   ·simp
 ·split
  ·rw [kV (fun o ho=>by rcases zL ho with g|g<;>rw [g]<;>decide)];simp
  ·split
   ·rw [kV (fun o ho=>by rcases uK ho with g|g|g<;>rw [g]<;>decide)];simp
   ·rw [kV (fun o ho=>wB ho)];simp):p:=h
theorem Q68 {p:Prop} (h:p:=by
 have HAz:=Hu (HA1.out.below hbz);have hpz:=HAz.out.plt;have d5:=ah hbz d5 k1;have x8:=ah hbz x8 hp1;by_cases hre:f5=X.cf.retries
 ·subst hre;go_wp2_with fail;refine Zr (fun w':World=>w'.cell? ⟨p,8,none⟩=some (.int .i64 X.cf.retries)∧w'.cell? ⟨g,i*7+5,none⟩=some (.int .i64 X.cf.retries)) (fun hHeld=>?_);exact Q14
 ·have hne:(f5 == X.cf.retries)=false:=by simpa using hre
  go_wp2_with fail;refine Zr (fun w':World=>w'.cell? ⟨p,8,none⟩=some (.int .i64 X.cf.retries)∧w'.cell? ⟨g,i*7+5,none⟩=some (.int .i64 f5)) (fun hHeld=>?_);exact Q14):p:=h
theorem Q72 {p:Prop} (h:p:=by
 have hne:(ans != 0)=true:=by simpa using ha0
 have HNe:=Hu ha0;clear ha0;go_wp2_with fail;refine Ix (v:=.tuple #[]) (by simp [results,Tryz.results33,go_sem]) rfl ?_;rw [HAW.out];unfold jF;simp only;rw [if_pos (by simp [HNe.out])];exact HA5.out.fin trivial):p:=h
theorem Q161 {p:Prop} (h:p:=by
 rintro (g|g|g)
 ·exact Or.inr (Or.inl g)
 ·exact Or.inl g
 ·exact Or.inr (Or.inr g)):p:=h
theorem Q77 {p:Prop} (h:p:=by
 simp only [List.mem_append,List.mem_cons];constructor
 ·exact Q161
 ·exact Q161):p:=h
theorem Q83 {p:Prop} (h:p:=by
 obtain ⟨h0,h1,h3,h4,h5,h6,h7,h8,h9,k0,k1,k2,l0,l1,l2⟩:=h;exact ⟨k _ _ h0,k _ _ h1,k _ _ h3,k _ _ h4,k _ _ h5,k _ _ h6,k _ _ h7,k _ _ h8,k _ _ h9,k _ _ k0,k _ _ k1,k _ _ k2,k _ _ l0,k _ _ l1,k _ _ l2⟩):p:=h
theorem Q88 {p:Prop} (h:p:=by
 exact ⟨hR,fun _ g=>absurd g (by decide),by rw [uo (Or.inr (Or.inl (by decide)))];exact h.req hR⟩):p:=h
theorem Q97 {p:Prop} (h:p:=by
 go_wp2_with fail;refine Ix (v:=.tuple #[]) (by simp [results,Tryz.results33,go_sem]) rfl ?_;rw [HAW.out];unfold jF;simp only;rw [if_pos (Or.inl trivial)];exact HA5.out.fin trivial):p:=h
theorem Q104 {p:Prop} (h:p:=by
 go_wp2;go_roundw
 case rel=>exact ⟨k+1,by omega,by go_num,H5.out.1.alloc H5.out.1.size _,(heap_alloc_old _ _ l5').trans H5.out.2⟩
 case measure=>simp [intOf];omega):p:=h
theorem Q114 {p:Prop} (h:p:=by
 rw [if_neg h,List.pairwise_cons,List.pairwise_cons];refine ⟨fun g hg=>?_,hs⟩;rcases List.mem_cons.1 hg with rfl|hg
 ·omega
 ·have:=hs.1 g hg;omega):p:=h
theorem Q115 {p:Prop} (h:p:=by
 rw [List.nodup_iff_pairwise_ne,List.pairwise_map];refine h.so.imp_of_mem fun {a b} ha hb hab=>?_;have h1:=(h.fl a ha).s0;have h2:=(h.fl b hb).s0;omega):p:=h
theorem Q118 {p:Prop} (h:p:=by
 rw [pe]
 cases dt L b with
 | none=>rfl
 | some x=>
  simp only [Option.map_some,Iu];unfold Lf.wk;by_cases e:x.state=1<;>simp [e]):p:=h
theorem Q121 {p:Prop} (h:p:=by
 rcases List.mem_append.1 h with h|h
 ·exact Or.inl h
 ·rcases ph h with h|h
  ·exact Or.inr (Or.inl h)
  ·exact Or.inr (Or.inr (Or.inr h))):p:=h
theorem Q122 {p:Prop} (h:p:=by
 have h3:(ej X.now X.flows).length≤X.flows.length:=by unfold ej;rw [I9];exact List.length_filter_le _ _
 have:=h.len;omega):p:=h
theorem Q129 {p:Prop} (h:p:=by
 rw [show (dM L).getD b 0=0 by simp only [List.getD];rw [Ik (by rw [cB];omega)];rfl];omega):p:=h
theorem Q130 {p:Prop} (h:p:=by
 simp only [List.mem_append,List.mem_cons] at hk ⊢;rcases hk with hk|hk
 ·exact Or.inl hk
 ·exact Or.inr (Or.inr hk)):p:=h
theorem Q145 {p:Prop} (h:p:=by
 rcases Nat.lt_or_ge j L.length with g|g
 ·exact g
 ·rw [Ik g] at hj
  cases hj):p:=h
theorem Q147 {p:Prop} (h:p:=by
 go_enter Tryz.func22,Tryz.ntmps22;go_wp2
 all_goals first|(go_ret;exact ⟨rfl,rfl⟩)|exact Zx):p:=h
theorem Q149 {p:Prop} (h:p:=by
 obtain ⟨c,hc,hu⟩:=List.mem_flatten.1 hu;obtain ⟨x,_,rfl⟩:=It.1 hc;exact Q75):p:=h
theorem Q155 {p:Prop} (h:p:=by
 rw [hl] at hs;simp only [Option.map_some,Iu] at hs ⊢;unfold Lf.wk;simp [hs]):p:=h
theorem Q158 {p:Prop} (h:p:=by
 exact ⟨h.bk,(fun g=>absurd g (by decide)),by rw [uo (Or.inl rfl)];exact h⟩):p:=h
theorem Q159 {p:Prop} (h:p:=by
 rcases List.mem_cons.1 h with rfl|h
 ·exact Or.inl rfl
 ·exact Or.inr (pJ h)):p:=h
theorem Q160 {p:Prop} (h:p:=by
 rintro (h|h|h)
 ·exact Or.inr (Or.inl h)
 ·exact Or.inl h
 ·exact Or.inr (Or.inr h)):p:=h
theorem Q164 {p:Prop} (h:p:=by
 have h1:=(h.fl f hf).sl;rw [hs,Id] at h1;rw [h1] at hb;exact hb):p:=h
theorem Q165 {p:Prop} (h:p:=by
 rcases tu hs hi hb hx with rfl|⟨hx,_⟩
 ·exact hsi
 ·exact h.si x hx):p:=h
instance (L:List Ld) (C:List Int) (i:Nat):Decidable (qj L C i):=by unfold qj;infer_instance
def jS (L:List Ld) (C:List Int):Nat→Int
 | 0=>-1
 | k+1=>if qj L C k then (if jS L C k<0∨rX L k*ri L (jS L C k).toNat<rX L (jS L C k).toNat*ri L k then (k:Int) else jS L C k) else jS L C k
theorem wS (L:List Ld) (C:List Int):∀ n,eB L C 0 n (jS L C n)
 | 0=>qR 0
 | k+1=>by
  have h:=wS L C k;unfold jS;by_cases hk:qj L C k
  ·rw [if_pos hk];by_cases hn:jS L C k<0∨rX L k*ri L (jS L C k).toNat<rX L (jS L C k).toNat*ri L k
   ·rw [if_pos hn];exact kD h hk hn
   ·rw [if_neg hn];exact mT h (by omega) (fun h2=>hn (Or.inr h2))
  ·rw [if_neg hk];exact lZ h hk
def zn (Wk:List Int) (L:List Ld) (num den flows tries:Int):Int×Int:=
 if ∀ x∈L,¬ 0<x.weight then (0,11)
 else if 0≤dI L (cq L num den flows) Wk tries then ((L.getD (dI L (cq L num den flows) Wk tries).toNat Ld.zero).backend,0)
 else if 0≤jS L (cq L num den flows) L.length then ((L.getD (jS L (cq L num den flows) L.length).toNat Ld.zero).backend,0) else (0,9)
theorem Ay {Wk:List Int} {L:List Ld} {num den flows tries:Int} (h1:ez L) (h2:gH num den flows) (h3:0≤tries) (h4:tries≤12) (h5:Wk.length≤12) :
  zP Wk L num den flows tries (zn Wk L num den flows tries).1 (zn Wk L num den flows tries).2:=by
 unfold zn
 by_cases hw:∀ x∈L,¬ 0<x.weight
 ·rw [if_pos hw];exact Or.inr (Or.inr (Or.inl ⟨h1,h2,h3,h4,h5,hw,rfl,rfl⟩))
 ·rw [if_neg hw]
  have hw':∃ x∈L,0<x.weight:=by
   refine Classical.byContradiction fun h=>hw fun x hx h2=>h ⟨x,hx,h2⟩
  refine Or.inr (Or.inr (Or.inr ⟨h1,h2,h3,h4,h5,hw',?_⟩));rcases qU (L:=L) (C:=cq L num den flows) Wk tries with ha|⟨m,ha,hm⟩
  ·rw [ha,if_neg (by omega)];have hb:=wS L (cq L num den flows) L.length;rcases zJ hb with hb'|⟨m,hb',hm⟩
   ·rw [hb',if_neg (by omega)];exact Or.inr (Or.inr ⟨rfl,by rw [← hb'];exact hb,rfl,rfl⟩)
   ·rw [hb',if_pos (by omega)];exact Or.inr (Or.inl ⟨rfl,m,hm,by rw [← hb'];exact hb,by simp,rfl⟩)
  ·rw [ha,if_pos (by omega)];exact Or.inl ⟨m,hm,rfl,by simp,rfl⟩
def dC (X:Wd) (key:Nat) (but:Int):Int×Int:=zn (gU X.ring (AJ key)) (fg X but) X.cf.num X.cf.den (Fs X but) X.cf.tries
def eK (T:List Sl) (f:Fl):List Sl:=T.set f.slot.toNat ⟨f.gen+1,false,0,0⟩
def gQ (X:Wd) (i:Nat) (kind why:Int):Wd×List Out:=
 ((bZ (jq X i (eK X.tab (X.flows.getD i Fl.zero))) (X.flows.getD i Fl.zero).backend).1,
  ⟨kind,(X.flows.getD i Fl.zero).slot,(X.flows.getD i Fl.zero).gen,(X.flows.getD i Fl.zero).backend,0,0,why⟩ :: (bZ (jq X i (eK X.tab (X.flows.getD i Fl.zero))) (X.flows.getD i Fl.zero).backend).2)
def iJ (X:Wd) (i:Nat) (b:Int):Wd:=
 { X with tok:=X.tok - X.cf.bd,tab:=X.tab.set (X.flows.getD i Fl.zero).slot.toNat ⟨(X.flows.getD i Fl.zero).gen,true,(X.flows.getD i Fl.zero).key,b⟩,flows:=X.flows.set i { X.flows.getD i Fl.zero with backend:=b,retries:=(X.flows.getD i Fl.zero).retries+1,due:=X.now+X.cf.connect },lists:=jE X.now X.lists (X.flows.getD i Fl.zero).slot X.cf.connect }
def eU (X:Wd) (i:Nat) (why:Int):Wd×List Out:=
 let f:=X.flows.getD i Fl.zero
 let X1:=bU X f.backend.toNat true
 if f.retries=X.cf.retries∨X.tok<X.cf.bd then gQ X1 i 6 why
 else if (dC X1 f.key.toNat f.slot).2≠0 then gQ X1 i 6 4
 else
  let b:=(dC X1 f.key.toNat f.slot).1
  let X2:=iJ X1 i b
  let s:=if f.backend=b then (X2,[]) else bZ X2 f.backend
  (s.1,⟨5,f.slot,f.gen,b,0,0,0⟩ :: s.2)
theorem aN {α:Type} {L:List α} {i:Nat} (h:i<L.length) (d:α):L.getD i d=L[i]:=by simp [List.getD,h]
theorem qv {α:Type} {L:List α} {x:α} (h:x∈L) (d:α):∃ i,i<L.length∧L.getD i d=x:=by
 obtain ⟨i,hi,rfl⟩:=List.mem_iff_getElem.1 h;exact ⟨i,hi,aN hi d⟩
theorem cG {L:List Lf} {R:List Rq} (h:bF L R):L.Pairwise fun a b=>a.backend<b.backend:=by
 have key:∀ j i,i<j→j<L.length→(L.getD i Lf.zero).backend<(L.getD j Lf.zero).backend:=by
  intro j
  induction j with
  | zero=>intro i hi;omega
  | succ j ih=>
   intro i hi hj;have h1:=(h.2.2.1 (j+1) hj).2;simp only [mB,Nat.add_sub_cancel,if_neg (Nat.succ_ne_zero j)] at h1;rcases (show i<j∨i=j by omega) with h2|rfl
   ·exact Int.lt_trans (ih i h2 (by omega)) h1
   ·exact h1
 refine List.pairwise_iff_getElem.2 fun i j hi hj hij=>?_;have:=key j i hij hj
 rwa [aN hi,aN hj] at this
theorem eO {L:List Lf} {R:List Rq} (h:bF L R) {x:Lf} (hx:x∈L):ex x:=by
 obtain ⟨i,hi,rfl⟩:=qv hx Lf.zero;exact (h.2.2.1 i hi).1
theorem dz {L:List Lf} {b:Int} {x:Lf} (h:dt L b=some x):x∈L∧x.backend=b:=
 ⟨List.mem_of_find?_eq_some h,by have:=List.find?_some h;simpa [cE] using this⟩
theorem j4 {L:List Lf} (hs:L.Pairwise fun a b=>a.backend<b.backend) {x:Lf} (hx:x∈L):dt L x.backend=some x:=by
 induction L with
 | nil=>simp at hx
 | cons a L ih=>
  rw [List.pairwise_cons] at hs;unfold dt;by_cases ha:a.backend=x.backend
  ·rw [List.find?_cons_of_pos (by simp [cE,ha])];rcases List.mem_cons.1 hx with rfl|hx
   ·rfl
   ·exact absurd (hs.1 x hx) (by omega)
  ·rw [List.find?_cons_of_neg (by simp [cE,ha])];rcases List.mem_cons.1 hx with rfl|hx
   ·exact absurd rfl ha
   ·exact ih hs.2 hx
theorem pH {L:List Lf} (hs:L.Pairwise fun a b=>a.backend<b.backend) {x:Lf} (hx:x∈L):gL L x.backend=x.state:=by
 unfold gL;rw [j4 hs hx]
 rfl
theorem mh {L:List Lf} {b:Int} {s:Int} (h:gL L b=s) (h0:s≠0):∃ x∈L,x.backend=b∧x.state=s:=by
 unfold gL at h
 cases hl:dt L b with
 | none=>rw [hl] at h;exact absurd h.symm h0
 | some x=>rw [hl] at h;exact ⟨x,(dz hl).1,(dz hl).2,h⟩
def dM (L:List Lf):List Nat:=(List.range 12).map fun b=>match dt L (b:Nat) with
 | some x=>if x.state=2 then x.weight.toNat else 0
 | none=>0
theorem cB (L:List Lf):(dM L).length=12:=by simp [dM]
theorem ff (L:List Lf) {b:Nat} (h:b<12):(dM L).getD b 0=match dt L (b:Nat) with
 | some x=>if x.state=2 then x.weight.toNat else 0
 | none=>0:=by
 rw [aN (by rw [cB];exact h)]
 simp [dM]
theorem zt {L:List Lf} {R:List Rq} (h:bF L R) (b:Nat):(dM L).getD b 0≤8:=by
 by_cases hb:b<12
 ·rw [ff L hb]
  cases hl:dt L (b:Nat) with
  | none=>simp
  | some x=>
   have:=(eO h (dz hl).1).2.2.2.1;simp only
   split<;>omega
 ·exact Q129
theorem Fo (X Y:List Sp) (b:Nat):jX (X++Y) b=jX X b+jX Y b:=List.countP_append
theorem Ao (c n b:Nat):jX (cX c n) b=if c=b then 4*n else 0:=by
 unfold jX;by_cases h:c=b
 ·subst h;rw [if_pos rfl,List.countP_eq_length.2 (fun s hs=>by rw [gM hs];simp),eC]
 ·rw [if_neg h,List.countP_eq_zero.2 (fun s hs=>by rw [gM hs];simp;omega)]
theorem uT (ws:List Nat) (b:Nat):∀ k,jX (dg ws k) b=if b<k then 4*ws.getD b 0 else 0
 | 0=>by simp [dg,jX]
 | k+1=>by
  rw [dH,Fo,uT ws b k,Ao];by_cases h:k=b
  ·subst h;simp
  ·rw [if_neg h];by_cases h2:b<k
   ·rw [if_pos h2,if_pos (by omega)]
    rfl
   ·rw [if_neg h2,if_neg (by omega)]
theorem uU (ws:List Nat) {b:Nat} (h:b<12):jX (bO ws) b=4*ws.getD b 0:=by
 have e:jX (bO ws) b=jX (dg ws 12) b:=(fe _).countP_eq _;rw [e,uT,if_pos h]
theorem iE {ws:List Nat} (h:ws.length=12):gh (bO ws)=ws:=by
 refine List.ext_getElem (by simp [gh,h]) fun i h1 h2=>?_;have e:=kH (bO ws) (b:=i) (by omega);rw [aN h1,uU ws (by omega),aN h2] at e;rw [e];omega
theorem rM {ws:List Nat}:∀ {k:Nat} {s:Sp},s∈dg ws k→∃ b,b<k∧s.backend=(b:Int)
 | 0,s,h=>by simp [dg] at h
 | k+1,s,h=>by
  rw [dH] at h;rcases List.mem_append.1 h with h|h
  ·obtain ⟨b,hb,e⟩:=rM h;exact ⟨b,by omega,e⟩
  ·exact ⟨k,by omega,gM h⟩
theorem pP {ws:List Nat} (h:ws.length=12) (h8:∀ b,ws.getD b 0≤8):RgMay (bO ws):=by
 refine ⟨fun s hs=>?_,fun b hb=>?_,by rw [iE h]⟩
 ·obtain ⟨b,hb,e⟩:=rM ((fe _).mem_iff.1 hs);omega
 ·rw [uU ws hb];have:=h8 b;omega
def nc (f:Fl):Tm:=⟨f.due,f.slot⟩
def ej (now:Int) (F:List Fl):List Tm:=(F.filter fun f=>decide (now<f.due)).map nc
structure Hq (X:Wd) (f:Fl):Prop where
 s0:0≤f.slot
 s1:f.slot<X.tab.length
 sl:X.tab.getD f.slot.toNat Sl.zero=⟨f.gen,true,f.key,f.backend⟩
 r0:0≤f.retries
 r1:f.retries≤X.cf.retries
 st:gL X.lives f.backend=2∨gL X.lives f.backend=3
 d0:X.now≤f.due
 d1:f.due≤X.now+500
structure GwMay (X:Wd):Prop where
 cf:ju X.cf
 n0:0≤X.now
 n1:X.now≤1099511626776
 tb:dN X.tab
 tl:(X.tab.length:Int)=X.cf.flows
 bk:bF X.lives X.reqs
 hl:X.health.length=12
 ht:∀ i,i<12→ge X.cf.ww X.cf.wf X.cf.wh (X.health.getD i Ht.zero).marks.length (X.health.getD i Ht.zero).out (X.health.getD i Ht.zero).until_ (X.health.getD i Ht.zero).times X.now 0
 ho:∀ i,i<12→(X.health.getD i Ht.zero).out=true→X.now<(X.health.getD i Ht.zero).until_
 t0:0≤X.tok
 t1:X.tok≤X.cf.bb*X.cf.bd
 rg:X.ring=bO (dM X.lives)
 wn:X.wnow=X.now
 wl:X.lists=bK X.now (ej X.now X.flows)
 so:X.flows.Pairwise fun a b=>a.slot<b.slot
 fl:∀ f∈X.flows,Hq X f
 us:∀ s,s<X.tab.length→(X.tab.getD s Sl.zero).used=true→∃ f∈X.flows,f.slot=s
 dr:∀ x∈X.lives,x.state=3→∃ f∈X.flows,f.backend=x.backend
 si:∀ x∈X.lives,x.since≤X.now
variable {X:Wd}
theorem GwMay.note (h:GwMay X):uu X:=⟨h.bk,h.hl,h.ht,by have:=h.cf.1.2.2;omega,by have:=h.cf.1.2.2;omega⟩
theorem GwMay.ring (h:GwMay X):RgMay X.ring:=by rw [h.rg];exact pP (cB _) (zt h.bk)
theorem GwMay.len (h:GwMay X):X.flows.length≤40:=by
 have hn:(X.flows.map fun f=>f.slot.toNat).Nodup:=by
  exact Q115
 have hs:∀ x∈X.flows.map (fun f=>f.slot.toNat),x<X.tab.length:=by
  intro x hx;obtain ⟨f,hf,rfl⟩:=It.1 hx;have h1:=(h.fl f hf).s0;have h2:=(h.fl f hf).s1;omega
 have:=List.Nodup.length_le_of_subset hn (l₂:=List.range X.tab.length) (fun x hx=>List.mem_range.2 (hs x hx));have h40:=h.tb.2.1;simp at this;omega
theorem GwMay.tms (h:GwMay X):(∀ t∈ej X.now X.flows,dJ t X.now)∧(gK (ej X.now X.flows)).Nodup:=by
 constructor
 ·intro t ht;obtain ⟨f,hf,rfl⟩:=It.1 ht;obtain ⟨hf,hd⟩:=List.mem_filter.1 hf;have h1:=h.fl f hf;have h2:=h1.s0;have h3:=h1.s1;have h4:=h1.d1;have h5:=h.n1;have h6:=h.tb.2.1;simp at hd;unfold dJ nc;simp only;omega
 ·unfold gK ej;rw [List.map_map,List.nodup_iff_pairwise_ne,List.pairwise_map];refine (h.so.filter _).imp fun {a b} hab=>?_;simp [nc];omega
theorem GwMay.wh (h:GwMay X):WhMay X.now X.lists:=by
 rw [h.wl];exact (pv h.n0 (by have:=h.n1;omega) h.tms.1 h.tms.2).1
theorem GwMay.whp (h:GwMay X):X.lists.flatten.Perm (ej X.now X.flows):=by
 rw [h.wl];exact (pv h.n0 (by have:=h.n1;omega) h.tms.1 h.tms.2).2
theorem nm {T:List Sl} (h:dN T) {i:Nat} (hi:i<T.length):dw (T.getD i Sl.zero):=by rw [aN hi];exact h.2.2 _ (If hi)
theorem GwMay.num (h:GwMay X) {f:Fl} (hf:f∈X.flows):∃ s:Nat,f.slot=s∧s<X.tab.length∧X.tab.getD s Sl.zero=⟨f.gen,true,f.key,f.backend⟩∧0≤f.gen∧f.gen≤1048575∧0≤f.key∧f.key≤4294967295∧0≤f.backend∧f.backend≤11:=by
 have h1:=h.fl f hf;obtain ⟨s,hs⟩:=Ih h1.s0
 have hs':s<X.tab.length:=by have:=h1.s1;omega
 have h2:=h1.sl;rw [hs,Id] at h2;have h3:=nm h.tb hs';rw [h2] at h3;simp [dw] at h3;exact ⟨s,hs,hs',h2,h3⟩
theorem GwMay.get (h:GwMay X) {f:Fl} (hf:f∈X.flows):nT X.tab f.slot f.gen ⟨f.gen,true,f.key,f.backend⟩ 0:=by
 obtain ⟨s,hs,hs',h2,_⟩:=h.num hf;exact Or.inr (Or.inr ⟨h.tb,s,hs',hs,Or.inl ⟨by rw [h2],by rw [h2],h2.symm,rfl⟩⟩)
theorem GwMay.drop (h:GwMay X) {f:Fl} (hf:f∈X.flows):uC X.tab f.slot f.gen (eK X.tab f) 0:=by
 obtain ⟨s,hs,hs',h2,h3,h4,_⟩:=h.num hf;exact ⟨_,0,h.get hf,Or.inr ⟨rfl,s,hs',hs,⟨h3,h4⟩,by unfold eK;rw [hs,Id],rfl⟩⟩
theorem GwMay.move (h:GwMay X) {f:Fl} (hf:f∈X.flows) {b:Int} (h0:0≤b) (h1:b≤11):uv X.tab f.slot f.gen b (X.tab.set f.slot.toNat ⟨f.gen,true,f.key,b⟩) 0:=by
 obtain ⟨s,hs,hs',h2,h3,h4,_⟩:=h.num hf;exact ⟨_,0,h.get hf,Or.inr (Or.inr ⟨rfl,h0,h1,s,hs',hs,rfl,by rw [hs,Id],rfl⟩)⟩
theorem oX {T:List Sl} (h:dN T) (i:Nat) {s:Sl} (hs:dw s):dN (T.set i s):=by
 refine ⟨by simpa using h.1,by simpa using h.2.1,fun x hx=>?_⟩;rcases List.mem_or_eq_of_mem_set hx with hx|rfl
 ·exact h.2.2 x hx
 ·exact hs
theorem GwMay.tabd (h:GwMay X) {f:Fl} (hf:f∈X.flows):dN (eK X.tab f):=by
 obtain ⟨s,hs,hs',h2,h3,h4,_⟩:=h.num hf;exact oX h.tb _ (by simp [dw];omega)
theorem uI (L:List Sp):(ee L).Nodup:=by
 refine pK (p:=fun L=>(ee L).Nodup) ?_ ?_ L
 ·simp [ee]
 ·intro L s ih;rw [iC];unfold jZ;by_cases h:s.backend∈ee L
  ·rw [if_pos h];exact ih
  ·rw [if_neg h,List.nodup_append];refine ⟨ih,by simp,?_⟩;intro a ha b hb;simp at hb;rintro rfl;exact h (hb ▸ ha)
theorem xB (X:List Sp) (a b:Int):b∈gU X a↔∃ s∈X,s.backend=b:=by
 unfold gU;rw [Ac];constructor
 ·rintro ⟨s,hs,e⟩;rcases List.mem_append.1 hs with hs|hs
  ·exact ⟨s,(List.mem_filter.1 hs).1,e⟩
  ·exact ⟨s,(List.mem_filter.1 hs).1,e⟩
 ·rintro ⟨s,hs,e⟩;by_cases h:a≤s.hash
  ·exact ⟨s,List.mem_append.2 (Or.inl (List.mem_filter.2 ⟨hs,by simpa using h⟩)),e⟩
  ·exact ⟨s,List.mem_append.2 (Or.inr (List.mem_filter.2 ⟨hs,by simp;omega⟩)),e⟩
theorem walk_len12 {X:List Sp} (h:RgMay X) (a:Int):(gU X a).length≤12:=by
 have hb:∀ b∈gU X a,0≤b∧b≤11:=by
  intro b hb;obtain ⟨s,hs,rfl⟩:=(xB X a b).1 hb;exact h.1 s hs
 have hn:((gU X a).map Int.toNat).Nodup:=by
  rw [List.nodup_iff_pairwise_ne,List.pairwise_map];refine (List.nodup_iff_pairwise_ne.1 (uI _)).imp_of_mem fun {x y} hx hy hxy=>?_;have h1:=hb x hx;have h2:=hb y hy;omega
 have:=List.Nodup.length_le_of_subset hn (l₂:=List.range 12) (fun x hx=>by
  obtain ⟨y,hy,rfl⟩:=It.1 hx;have:=hb y hy
  exact List.mem_range.2 (by omega))
 simpa using this
theorem iW {T:List Sl} {b:Int} {h:Hd}:∀ {n:Nat},h∈iX T b n↔∃ k:Nat,k<n∧(T.getD k Sl.zero).used=true∧(T.getD k Sl.zero).backend=b∧h=⟨k,(T.getD k Sl.zero).gen⟩
 | 0=>by simp [iX]
 | n+1=>by
  simp only [iX,List.mem_append,iW (n:=n)];constructor
  ·rintro (⟨k,h1,h2⟩|h1)
   ·exact ⟨k,by omega,h2⟩
   ·split at h1
    ·rename_i h2
     simp at h1;exact ⟨n,by omega,h2.1,h2.2,h1⟩
    ·simp at h1
  ·rintro ⟨k,h1,h2,h3,h4⟩;rcases (show k<n∨k=n by omega) with hk|rfl
   ·exact Or.inl ⟨k,hk,h2,h3,h4⟩
   ·right;rw [if_pos ⟨h2,h3⟩];simpa using h4
theorem Cu {w d m:Int} (h1:1≤w) (h2:0≤d) (h3:0≤m):1≤gN w d m∧gN w d m≤w:=by
 unfold gN;by_cases h:m≤d
 ·rw [if_pos h];omega
 ·rw [if_neg h];have hm:0<m:=by omega
  have h4:w*d / m≤w:=by
   have:w*d≤w*m:=Int.mul_le_mul_of_nonneg_left (by omega) (by omega);have:=Int.ediv_le_ediv hm this
   rwa [Int.mul_ediv_cancel _ (by omega)] at this
  omega
theorem Gp (T:List Sl) {b:Nat} (h:b<12) (n:Nat):(gZ T n).getD b 0=(iX T b n).length:=by
 simp only [List.getD,kA T n b h,Iu]
variable {X:Wd}
theorem GwMay.load (h:GwMay X) {but:Int} (hb:but<X.tab.length):uw X but:=by
 have h1:=h.cf.1.1;exact ⟨h.bk,h.hl,h.tb,by omega,by omega,by have:=h.n1;omega,fun i hi=>h.si _ (by rw [aN hi];exact If hi),hb⟩
def rf (X:Wd) (but:Int):Prop:=but=-1∨∃ s:Nat,but=s∧s<X.tab.length∧(X.tab.getD s Sl.zero).used=true∧X.flows≠[]
theorem FQ (h:GwMay X) {but:Int} (hb:rf X but) {b:Int} (b0:0≤b) (b1:b≤11):0≤qx X but b∧qx X but b≤40:=by
 obtain ⟨n,rfl⟩:=Ih b0;unfold qx;rw [Id,Gp _ (by omega)];have h40:=h.tb.2.1;have hl:=kL X.tab n X.tab.length;by_cases ho:xW X but n=true
 ·rw [if_pos ho]
  have:0<(iX X.tab n X.tab.length).length:=by
   rcases hb with rfl|⟨s,rfl,hs,hu,_⟩
   ·simp [xW] at ho
   ·simp [xW] at ho;exact List.length_pos_of_mem (a:=⟨s,(X.tab.getD s Sl.zero).gen⟩) (iW.2 ⟨s,hs,hu,by simpa [List.getD] using ho,rfl⟩)
  omega
 ·rw [if_neg ho];omega
theorem FP (h:GwMay X) {x:Lf} (hx:x∈X.lives):0≤mA X x∧mA X x≤x.weight:=by
 have h1:=eO h.bk hx;have h2:=h.si x hx;have h3:=h.cf.1.1;unfold mA
 split
 ·have:=h1.2.2.1;omega
 ·have:=Cu (w:=x.weight) (d:=X.now - x.since) (m:=X.cf.warm) h1.2.2.1 (by omega) (by omega);omega
theorem yi (h:GwMay X) (but:Int):(fg X but).Pairwise fun a b=>a.backend<b.backend:=by
 unfold fg;rw [List.pairwise_map];exact (cG h.bk).filter _
theorem zw {but:Int} {y:Ld}:y∈fg X but↔∃ x∈X.lives,x.state=2∧vH X but x=y:=by
 unfold fg;rw [It];constructor
 ·rintro ⟨x,hx,e⟩;obtain ⟨h1,h2⟩:=List.mem_filter.1 hx;exact ⟨x,h1,by simpa using h2,e⟩
 ·rintro ⟨x,h1,h2,e⟩;exact ⟨x,List.mem_filter.2 ⟨h1,by simpa using h2⟩,e⟩
theorem FM (h:GwMay X) {but:Int} (hb:rf X but):ez (fg X but):=by
 have hs:=yi h but;refine ⟨?_,fun i hi=>?_⟩
 ·unfold fg;rw [I9];exact Iq (List.length_filter_le _ _) h.bk.1
 ·have hm:(fg X but).getD i Ld.zero∈fg X but:=by rw [aN hi];exact If hi
  obtain ⟨x,hx,_,e⟩:=zw.1 hm;have h1:=eO h.bk hx;have hf:=FQ h hb h1.1 h1.2.1;have hw:=FP h hx;have h8:=h1.2.2.2.1
  have eb:((fg X but).getD i Ld.zero).backend=x.backend:=by rw [← e];rfl
  have ew:((fg X but).getD i Ld.zero).weight=mA X x:=by rw [← e];rfl
  have ef:((fg X but).getD i Ld.zero).flows=qx X but x.backend:=by rw [← e];rfl
  refine ⟨?_,by rw [eb];exact h1.2.1,by rw [ew];omega,by rw [ew];omega,by rw [ef];exact hf.1,by rw [ef];exact hf.2⟩;unfold jm;by_cases hi0:i=0
  ·rw [if_pos hi0,eb];have:=h1.1;omega
  ·rw [if_neg hi0,aN (show i - 1<(fg X but).length by omega),aN hi];exact List.pairwise_iff_getElem.1 hs (i - 1) i (by omega) hi (by omega)
theorem GwMay.fac (h:GwMay X) {but:Int} (hb:rf X but):gH X.cf.num X.cf.den (Fs X but):=by
 have h1:=h.cf.1.2.1;have h2:=h.len
 have h3:0≤Fs X but∧Fs X but≤40:=by
  unfold Fs;rcases hb with rfl|⟨s,rfl,_,_,hf⟩
  ·rw [if_neg (by omega)];omega
  ·have:=List.length_pos_iff.2 hf;rw [if_pos (by omega)];omega
 exact ⟨by omega,by omega,by omega,h3.1,h3.2⟩
theorem GwMay.pick (h:GwMay X) (key:Nat) {but:Int} (hb:rf X but):ux X key but (dC X key but).1 (dC X key but).2:=by
 have h1:=h.cf.1.2.2;exact Ay (FM h hb) (h.fac hb) (by omega) (by omega) (walk_len12 h.ring _)
theorem GwMay.butF (h:GwMay X) {f:Fl} (hf:f∈X.flows):rf X f.slot:=by
 obtain ⟨s,hs,hs',h2,_⟩:=h.num hf;exact Or.inr ⟨s,hs,hs',by rw [h2],fun e=>by rw [e] at hf;simp at hf⟩
theorem tK (h:GwMay X) {key:Nat} {but:Int} (hb:rf X but) (h0:(dC X key but).2=0):∃ x∈X.lives,x.state=2∧x.backend=(dC X key but).1:=by
 have hp:=h.pick key hb;rw [h0] at hp
 have key:∀ m,m<(fg X but).length→∃ x∈X.lives,x.state=2∧x.backend=((fg X but).getD m Ld.zero).backend:=by
  intro m hm
  have hm':(fg X but).getD m Ld.zero∈fg X but:=by rw [aN hm];exact If hm
  obtain ⟨x,hx,hs,e⟩:=zw.1 hm';exact ⟨x,hx,hs,by rw [← e];rfl⟩
 rcases hp with ⟨_,_,h2,_⟩|⟨_,_,_,_,h2⟩|⟨_,_,_,_,_,_,_,h2⟩|⟨_,_,_,_,_,_,⟨m,hm,_,e,_⟩|⟨_,m,hm,_,e,_⟩|⟨_,_,_,h2⟩⟩
 ·exact absurd rfl h2
 ·omega
 ·omega
 ·rw [e];exact key m hm
 ·rw [e];exact key m hm
 ·omega
theorem zm (h:GwMay X) {key:Nat} {but:Int} (hb:rf X but) (h0:(dC X key but).2=0):0≤(dC X key but).1∧(dC X key but).1≤11:=by
 obtain ⟨x,hx,_,e⟩:=tK h hb h0;have:=eO h.bk hx;rw [← e];exact ⟨this.1,this.2.1⟩
theorem cO {α:Type} {L:List α} {i j:Nat} {x d:α} (hi:i<L.length):(L.set i x).getD j d=if i=j then x else L.getD j d:=by
 simp only [List.getD,List.getElem?_set,if_pos hi];by_cases h:i=j<;>simp [h]
theorem yf (M:List Bool) (f:Bool) {a:Int} (h:0≤a):((gz M f a).length:Int)≤a:=by
 unfold gz;rw [List.length_drop,Ic];simp;omega
theorem DE {c t:Int} (h:1≤c):1≤mF c t∧mF c t≤500:=by
 unfold mF
 have h1:(1:Int)≤2 ^ t.toNat:=by
  have:(0:Int)<2 ^ t.toNat:=Int.pow_pos (by omega);omega
 have h2:1*1≤c*2 ^ t.toNat:=Int.mul_le_mul h h1 (by omega) (by omega);omega
theorem CV {X:Wd} (h:GwMay X) {b:Nat} (hb:b<12) (failed may:Bool) :
  ge X.cf.ww X.cf.wf X.cf.wh (iY X.cf (X.health.getD b Ht.zero) failed X.now may).marks.length (iY X.cf (X.health.getD b Ht.zero) failed X.now may).out (iY X.cf (X.health.getD b Ht.zero) failed X.now may).until_ (iY X.cf (X.health.getD b Ht.zero) failed X.now may).times X.now 0∧
  ((iY X.cf (X.health.getD b Ht.zero) failed X.now may).out=true→X.now<(iY X.cf (X.health.getD b Ht.zero) failed X.now may).until_):=by
 obtain ⟨h1,h2,h3,h4⟩:=fC (h.ht b hb)
 have ho:=h.ho b hb
 have hn:=h.n1
 have hw:=h1.2.2.2.2.1
 have hh:=DE (t:=(X.health.getD b Ht.zero).times) hw
 have ha:0≤X.cf.ww:=by have:=h1.1;omega
 have hl:=yf (X.health.getD b Ht.zero).marks failed ha
 obtain ⟨a1,a2,a3,a4,a5,a6⟩:=h4
 unfold iY
 by_cases hc:(X.health.getD b Ht.zero).out=false∧may=true∧X.cf.wf≤iZ (gz (X.health.getD b Ht.zero).marks failed X.cf.ww)
 ·rw [if_pos hc];refine ⟨Or.inr (Or.inr (Or.inr ⟨h1,h2,h3,⟨by simpa using ha,?_,?_,?_,?_,by simp⟩,rfl⟩)),fun _=>by simp only;omega⟩<;>simp only<;>omega
 ·rw [if_neg hc];exact ⟨Or.inr (Or.inr (Or.inr ⟨h1,h2,h3,⟨hl,a2,a3,a4,a5,a6⟩,rfl⟩)),ho⟩
theorem GwMay.noted {X:Wd} (h:GwMay X) {b:Nat} (hb:b<12) (failed:Bool):GwMay (bU X b failed):=by
 have hb':b<X.health.length:=by rw [h.hl];exact hb
 have hn:=CV h hb failed (BK X && gL X.lives b == 2);refine { cf:=h.cf,n0:=h.n0,n1:=h.n1,tb:=h.tb,tl:=h.tl,bk:=h.bk,hl:=?_,ht:=?_,ho:=?_,t0:=h.t0,t1:=h.t1,rg:=h.rg,wn:=h.wn,wl:=h.wl,so:=h.so,fl:=fun f hf=>?_,us:=h.us,dr:=h.dr,si:=h.si }
 ·simp only [bU,Ig];exact h.hl
 ·intro i hi;simp only [bU];rw [cO hb'];by_cases e:b=i
  ·rw [if_pos e];exact hn.1
  ·rw [if_neg e];exact h.ht i hi
 ·intro i hi;simp only [bU];rw [cO hb'];by_cases e:b=i
  ·rw [if_pos e];exact hn.2
  ·rw [if_neg e];exact h.ho i hi
 ·have:=h.fl f hf;exact ⟨this.s0,this.s1,this.sl,this.r0,this.r1,this.st,this.d0,this.d1⟩
structure GwBut (X:Wd) (b:Int):Prop where
 cf:ju X.cf
 n0:0≤X.now
 n1:X.now≤1099511626776
 tb:dN X.tab
 tl:(X.tab.length:Int)=X.cf.flows
 bk:bF X.lives X.reqs
 hl:X.health.length=12
 ht:∀ i,i<12→ge X.cf.ww X.cf.wf X.cf.wh (X.health.getD i Ht.zero).marks.length (X.health.getD i Ht.zero).out (X.health.getD i Ht.zero).until_ (X.health.getD i Ht.zero).times X.now 0
 ho:∀ i,i<12→(X.health.getD i Ht.zero).out=true→X.now<(X.health.getD i Ht.zero).until_
 t0:0≤X.tok
 t1:X.tok≤X.cf.bb*X.cf.bd
 rg:X.ring=bO (dM X.lives)
 wn:X.wnow=X.now
 wl:X.lists=bK X.now (ej X.now X.flows)
 so:X.flows.Pairwise fun a b=>a.slot<b.slot
 fl:∀ f∈X.flows,Hq X f
 us:∀ s,s<X.tab.length→(X.tab.getD s Sl.zero).used=true→∃ f∈X.flows,f.slot=s
 dr:∀ x∈X.lives,x.state=3→x.backend≠b→∃ f∈X.flows,f.backend=x.backend
 si:∀ x∈X.lives,x.since≤X.now
theorem GwBut.all {X:Wd} {b:Int} (h:GwBut X b) (hd:∀ x∈X.lives,x.state=3→x.backend=b→∃ f∈X.flows,f.backend=x.backend):GwMay X:=by
 have hdr:∀ x∈X.lives,x.state=3→∃ f∈X.flows,f.backend=x.backend:=fun x hx h3=>by
  by_cases e:x.backend=b
  ·exact hd x hx h3 e
  ·exact h.dr x hx h3 e
 exact { cf:=h.cf,n0:=h.n0,n1:=h.n1,tb:=h.tb,tl:=h.tl,bk:=h.bk,hl:=h.hl,ht:=h.ht,ho:=h.ho,t0:=h.t0,t1:=h.t1,rg:=h.rg,wn:=h.wn,wl:=h.wl,so:=h.so,fl:=h.fl,us:=h.us,si:=h.si,dr:=hdr }
theorem gC (a:Lf) (L:List Lf) (b:Int):dt (a :: L) b=if a.backend=b then some a else dt L b:=by
 unfold dt;by_cases h:a.backend=b
 ·rw [if_pos h,List.find?_cons_of_pos (by simp [cE,h])]
 ·rw [if_neg h,List.find?_cons_of_neg (by simp [cE,h])]
theorem iq {y:Lf} {b:Int}:∀ {L:List Lf} {i:Nat},L.Pairwise (fun a b=>a.backend<b.backend)→i<L.length→y.backend=(L.getD i Lf.zero).backend→dt (L.set i y) b=if y.backend=b then some y else dt L b
 | [],i,_,hi,_=>by simp at hi
 | a :: L,0,_,_,hy=>by
  have hy':y.backend=a.backend:=hy;rw [List.set_cons_zero,gC,gC];by_cases h:y.backend=b
  ·rw [if_pos h,if_pos h]
  ·rw [if_neg h,if_neg h,if_neg (by omega)]
 | a :: L,i+1,hs,hi,hy=>by
  rw [List.pairwise_cons] at hs;have hi':i<L.length:=by simpa using hi
  have hy':y.backend=(L.getD i Lf.zero).backend:=by simpa using hy
  have hlt:a.backend<y.backend:=by rw [hy',aN hi'];exact hs.1 _ (If hi')
  rw [List.set_cons_succ,gC,gC,iq hs.2 hi' hy'];by_cases h:a.backend=b
  ·rw [if_pos h,if_neg (by omega),if_pos h]
  ·rw [if_neg h,if_neg h]
theorem nM {L:List Lf} {R:List Rq} (h:bF L R) {i:Nat} (hi:i<L.length) {y:Lf} (hy:ex y) (hb:y.backend=(L.getD i Lf.zero).backend):bF (L.set i y) R:=by
 obtain ⟨h1,h2,h3,h4,h5⟩:=h
 have hbk:∀ j,((L.set i y).getD j Lf.zero).backend=(L.getD j Lf.zero).backend:=by
  intro j;rw [cO hi];by_cases e:i=j
  ·subst e;rw [if_pos rfl,hb]
  ·rw [if_neg e]
 refine ⟨by simpa using h1,h2,fun j hj=>?_,h4,h5⟩;have hj':j<L.length:=by simpa using hj
 obtain ⟨a1,a2⟩:=h3 j hj';refine ⟨?_,?_⟩
 ·rw [cO hi];by_cases e:i=j
  ·rw [if_pos e];exact hy
  ·rw [if_neg e];exact a1
 ·rw [hbk];unfold mB at a2 ⊢;by_cases e:j=0
  ·rw [if_pos e] at a2 ⊢;exact a2
  ·rw [if_neg e] at a2 ⊢;rw [hbk];exact a2
theorem vE {L:List Lf} (hs:L.Pairwise fun a b=>a.backend<b.backend) {i:Nat} (hi:i<L.length) {y:Lf} (hb:y.backend=(L.getD i Lf.zero).backend) (h1:y.state≠2) (h2:(L.getD i Lf.zero).state≠2):dM (L.set i y)=dM L:=by
 unfold dM;refine List.map_congr_left fun b _=>?_;rw [iq hs hi hb];by_cases e:y.backend=(b:Int)
 ·have:dt L (b:Nat)=some (L.getD i Lf.zero):=by
   rw [← e,hb];exact j4 hs (by rw [aN hi];exact If hi)
  rw [if_pos e,this];simp only;rw [if_neg h1,if_neg h2]
 ·rw [if_neg e]
theorem no_of {X:Wd} {b c:Int} (h:GwBut X c) (hn:iX X.tab b X.tab.length=[]) {f:Fl} (hf:f∈X.flows):f.backend≠b:=by
 intro e;have h1:=h.fl f hf;have h0:=h1.s0;have h2:=h1.s1;have:(⟨f.slot.toNat,(X.tab.getD f.slot.toNat Sl.zero).gen⟩:Hd)∈iX X.tab b X.tab.length:=iW.2 ⟨f.slot.toNat,by omega,by rw [h1.sl],by rw [h1.sl];exact e,rfl⟩;rw [hn] at this;simp at this
theorem Ff {X:Wd} {b c:Int} (h:GwBut X c) (hn:iX X.tab b X.tab.length≠[]):∃ f∈X.flows,f.backend=b:=by
 obtain ⟨x,hx⟩:=List.exists_mem_of_ne_nil _ hn;obtain ⟨k,hk,hu,hb,_⟩:=iW.1 hx;obtain ⟨f,hf,hs⟩:=h.us k hk hu;refine ⟨f,hf,?_⟩;exact Q164
theorem lI {X:Wd} {b:Int} (h:GwBut X b):GwMay (bZ X b).1:=by
 have hs:=cG h.bk;unfold bZ
 cases hl:dt X.lives b with
 | none=>
  refine h.all fun x hx _ e=>?_;have:=j4 hs hx;rw [e,hl] at this
  cases this
 | some x=>
  obtain ⟨hx,hxb⟩:=dz hl
  have same:∀ y∈X.lives,y.backend=b→y=x:=by
   intro y hy e;have:=j4 hs hy;rw [e,hl] at this;exact (Option.some.inj this).symm
  simp only;by_cases hc:x.state=3∧iX X.tab b X.tab.length=[]
  ·rw [if_pos hc];obtain ⟨i,hi,hix⟩:=qv hx Lf.zero
   have hfin:jY X.lives b=X.lives.set i x.done:=by
    rcases bJ (cE b) X.lives Lf.zero with ⟨h1,_⟩|⟨j,hj,h1,_⟩
    ·rw [(fH X.lives b).1 h1] at hl
     cases hl
    ·have h2:=(fH X.lives b).2 j h1 hj;rw [hl] at h2;have h2':x=X.lives.getD j Lf.zero:=Option.some.inj h2
     have hij:i=j:=by
      rw [List.pairwise_iff_getElem] at hs;rw [aN hi] at hix;rw [aN hj] at h2';rcases Nat.lt_trichotomy i j with g|g|g
      ·have:=hs i j hi hj g;rw [hix,← h2'] at this;omega
      ·exact g
      ·have:=hs j i hj hi g;rw [hix,← h2'] at this;omega
     rw [wF h1,← hij,hix]
   have hyb:x.done.backend=(X.lives.getD i Lf.zero).backend:=by rw [hix];rfl
   have hym:ex x.done:=by
    have:=eO h.bk hx;obtain ⟨a1,a2,a3,a4,a5,a6,a7,a8,a9,a10,_⟩:=this;exact ⟨a1,a2,a3,a4,a5,a6,a7,a8,a9,a10,Or.inr (Or.inr (Or.inr rfl))⟩
   have hbk:=nM h.bk hi hym hyb;have hs':=cG hbk;have hlw:=vE hs hi hyb (y:=x.done) (by decide:(4:Int)≠2) (by rw [hix,hc.1];decide);refine { cf:=h.cf,n0:=h.n0,n1:=h.n1,tb:=h.tb,tl:=h.tl,bk:=?_,hl:=h.hl,ht:=h.ht,ho:=h.ho,t0:=h.t0,t1:=h.t1,rg:=?_,wn:=h.wn,wl:=h.wl,so:=h.so,fl:=fun f hf=>?_,us:=h.us,dr:=?_,si:=?_ }
   ·simp only;rw [hfin];exact hbk
   ·simp only;rw [hfin,hlw];exact h.rg
   ·have h1:=h.fl f hf;have hne:=no_of h hc.2 hf;refine ⟨h1.s0,h1.s1,h1.sl,h1.r0,h1.r1,?_,h1.d0,h1.d1⟩
    have e:gL (jY X.lives b) f.backend=gL X.lives f.backend:=by
     unfold gL;rw [hfin,iq hs hi hyb,if_neg (by rw [hyb,hix,hxb];exact fun e=>hne e.symm)]
    simp only;rw [e];exact h1.st
   ·intro y hy h3;simp only at hy;rw [hfin] at hy;rcases List.mem_or_eq_of_mem_set hy with hy'|rfl
    ·refine h.dr y hy' h3 fun e=>?_;have:=same y hy' e;have h4:=j4 hs' hy;rw [iq hs hi hyb,if_pos (by rw [hyb,hix,this])] at h4;have h5:=Option.some.inj h4;rw [← h5] at h3;exact absurd h3 (by decide:(4:Int)≠3)
    ·exact absurd h3 (by decide:(4:Int)≠3)
   ·intro y hy;simp only at hy;rw [hfin] at hy;rcases List.mem_or_eq_of_mem_set hy with hy'|rfl
    ·exact h.si y hy'
    ·exact h.si x hx
  ·rw [if_neg hc];refine h.all fun y hy h3 e=>?_;obtain rfl:=same y hy e;rw [e];exact Ff h fun g=>hc ⟨h3,g⟩
theorem wQ {X:Wd} (h:GwMay X) {L':List Lf} {R':List Rq} (b:Int) (hb:bF L' R') (hst:∀ f∈X.flows,gL L' f.backend=2∨gL L' f.backend=3) (hdr:∀ x∈L',x.state=3→x.backend≠b→∃ f∈X.flows,f.backend=x.backend) (hsi:∀ x∈L',x.since≤X.now) :
  GwBut { X with lives:=L',reqs:=R',ring:=bO (dM L') } b:=
 { cf:=h.cf,n0:=h.n0,n1:=h.n1,tb:=h.tb,tl:=h.tl,bk:=hb,hl:=h.hl,ht:=h.ht,ho:=h.ho,t0:=h.t0,t1:=h.t1,rg:=rfl,wn:=h.wn,wl:=h.wl,so:=h.so,us:=h.us,dr:=hdr,si:=hsi,fl:=fun f hf=>by
      have h1:=h.fl f hf
      exact ⟨h1.s0,h1.s1,h1.sl,h1.r0,h1.r1,hst f hf,h1.d0,h1.d1⟩ }
theorem nK {X:Wd} (h:GwMay X) {L':List Lf} {R':List Rq} (hb:bF L' R') (hl:dM L'=dM X.lives) (hst:∀ f∈X.flows,gL L' f.backend=2∨gL L' f.backend=3) (hdr:∀ x∈L',x.state=3→∃ f∈X.flows,f.backend=x.backend) (hsi:∀ x∈L',x.since≤X.now) :
  GwMay { X with lives:=L',reqs:=R' }:=by
 have h1:=(wQ h (-1) hb hst (fun x hx h3 _=>hdr x hx h3) hsi).all (fun x hx h3 _=>hdr x hx h3)
 have e:({ X with lives:=L',reqs:=R',ring:=bO (dM L') }:Wd)={ X with lives:=L',reqs:=R' }:=by rw [hl,← h.rg]
 rw [e] at h1
 exact h1
theorem Ea {L:List Lf} {R:List Rq} (h:bF L R) {q:Rq} (hq:fJ q) (hn:aQ (jW q.id) R=-1) (hl:R.length≠100):bF L (R++[q]):=by
 obtain ⟨h1,h2,h3,h4,h5⟩:=h;refine ⟨h1,by simp;omega,h3,fun x hx=>?_,?_⟩
 ·rcases List.mem_append.1 hx with hx|hx
  ·exact h4 x hx
  ·simp at hx;subst hx;exact hq
 ·unfold gP at h5 ⊢;rw [Ir,List.nodup_append];refine ⟨h5,by simp,fun a ha c hc=>?_⟩;simp at hc;subst hc;rcases bJ (jW q.id) R Rq.zero with ⟨_,h6⟩|⟨i,hi,he,_⟩
  ·obtain ⟨x,hx,rfl⟩:=It.1 ha;have:=h6 x hx;simpa [jW] using this
  ·omega
theorem uN {L:List Lf} (hs:L.Pairwise fun a b=>a.backend<b.backend) {i:Nat} (hi:i<L.length) {y:Lf} (hb:y.backend=(L.getD i Lf.zero).backend) (b:Int):gL (L.set i y) b=if y.backend=b then y.state else gL L b:=by
 unfold gL;rw [iq hs hi hb];by_cases e:y.backend=b
 ·rw [if_pos e,if_pos e]
  rfl
 ·rw [if_neg e,if_neg e]
theorem tu {L:List Lf} (hs:L.Pairwise fun a b=>a.backend<b.backend) {i:Nat} (hi:i<L.length) {y x:Lf} (hb:y.backend=(L.getD i Lf.zero).backend) (hx:x∈L.set i y):x=y∨(x∈L∧x.backend≠y.backend):=by
 rcases List.mem_iff_getElem.1 hx with ⟨j,hj,rfl⟩;rw [List.getElem_set];by_cases e:i=j
 ·rw [if_pos e];exact Or.inl rfl
 ·rw [if_neg e];have hj':j<L.length:=by simpa using hj
  refine Or.inr ⟨If hj',?_⟩;rw [hb,aN hi];rw [List.pairwise_iff_getElem] at hs;rcases Nat.lt_trichotomy i j with g|g|g
  ·have:=hs i j hi hj' g;omega
  ·exact absurd g e
  ·have:=hs j i hj' hi g;omega
theorem vF {X:Wd} (h:GwMay X) {R':List Rq} (hR:bF X.lives R') {i:Nat} (hi:i<X.lives.length) {y:Lf} (hy:ex y) (hb:y.backend=(X.lives.getD i Lf.zero).backend)
  (h1:y.state=1∨y.state=4) (h2:(X.lives.getD i Lf.zero).state=1∨(X.lives.getD i Lf.zero).state=4) (hsi:y.since≤X.now):GwMay { X with lives:=X.lives.set i y,reqs:=R' }:=by
 have hs:=cG h.bk
 have hm:X.lives.getD i Lf.zero∈X.lives:=by rw [aN hi];exact If hi
 refine nK h (nM hR hi hy hb) (vE hs hi hb (by omega) (by omega)) (fun f hf=>?_) (fun x hx h3=>?_) (fun x hx=>?_)
 ·have hst:=(h.fl f hf).st;rw [uN hs hi hb];by_cases e:y.backend=f.backend
  ·have h4:=pH hs hm;rw [← hb,e] at h4;omega
  ·rw [if_neg e];exact hst
 ·rcases tu hs hi hb hx with rfl|⟨hx,_⟩
  ·omega
  ·exact h.dr x hx h3
 ·exact Q165
theorem D4 {X:Wd} (h:GwMay X) {R':List Rq} (hR:bF X.lives R') {i:Nat} (hi:i<X.lives.length) {y:Lf} (hy:ex y) (hb:y.backend=(X.lives.getD i Lf.zero).backend) (h1:y.state=3) (hsi:y.since≤X.now) :
  GwBut { X with lives:=X.lives.set i y,reqs:=R',ring:=bO (dM (X.lives.set i y)) } y.backend:=by
 have hs:=cG h.bk
 refine wQ h _ (nM hR hi hy hb) (fun f hf=>?_) (fun x hx h3 hne=>?_) (fun x hx=>?_)
 ·have hst:=(h.fl f hf).st;rw [uN hs hi hb];by_cases e:y.backend=f.backend
  ·rw [if_pos e];exact Or.inr h1
  ·rw [if_neg e];exact hst
 ·rcases tu hs hi hb hx with rfl|⟨hx,_⟩
  ·exact absurd rfl hne
  ·exact h.dr x hx h3
 ·exact Q165
theorem D3 {X:Wd} (h:GwMay X) {i:Nat} (hi:i<X.lives.length) {y:Lf} (hb:y.backend=(X.lives.getD i Lf.zero).backend) (h1:y.state=3) (h2:(X.lives.getD i Lf.zero).state=2) :
  ut X.ring y.backend (bO (dM (X.lives.set i y))) 0:=by
 have hs:=cG h.bk
 have hm:X.lives.getD i Lf.zero∈X.lives:=by rw [aN hi];exact If hi
 have hl:=eO h.bk hm
 obtain ⟨n,hn⟩:=Ih hl.1
 have hn12:n<12:=by have:=hl.2.1;omega
 have hlf:dt X.lives (n:Nat)=some (X.lives.getD i Lf.zero):=by
  have:=j4 hs hm;rw [hn] at this;exact this
 refine Or.inr (Or.inr ⟨n,h.ring,by rw [hb,hn],hn12,Or.inr ⟨?_,?_,rfl⟩⟩)
 ·rw [h.rg,iE (cB _),ff _ hn12,hlf];simp only;rw [if_pos h2];have:=hl.2.2.1;omega
 ·rw [h.rg,iE (cB _)]
  congr 1
  refine List.ext_getElem (by simp [cB]) fun j h3 h4=>?_;have hj:j<12:=by simpa [cB] using h3
  rw [← aN h3 0,← aN h4 0,cO (by rw [cB];exact hn12),ff _ hj,ff _ hj,iq hs hi hb];by_cases e:n=j
  ·subst e;rw [if_pos (by rw [hb,hn]),if_pos rfl];simp only;rw [if_neg (by omega)]
  ·rw [if_neg (by rw [hb,hn];intro g;exact e (by omega)),if_neg e]
theorem vG {L:List Lf} {k:Nat} {y:Lf} (hn:∀ x∈L,x.backend≠y.backend) (b:Int):dt (eo L k y) b=if y.backend=b then some y else dt L b:=by
 unfold eo dt;rw [List.find?_append];by_cases e:y.backend=b
 ·rw [if_pos e]
  have h1:(L.take k).find? (cE b)=none:=List.find?_eq_none.2 fun x hx=>by
   have:=hn x (List.mem_of_mem_take hx);simp [cE];omega
  rw [h1,List.find?_cons_of_pos (by simp [cE,e])]
  rfl
 ·rw [if_neg e,List.find?_cons_of_neg (by simp [cE,e]),← List.find?_append,Io]
theorem Hj {L:List Lf} {R:List Rq} (h1:∀ x∈L,ex x) (h2:L.Pairwise fun a b=>a.backend<b.backend) (h3:R.length≤100) (h4:∀ x∈R,fJ x) (h5:(gP R).Nodup):bF L R:=by
 refine ⟨?_,h3,fun i hi=>?_,h4,h5⟩
 ·have hn:(L.map fun x=>x.backend.toNat).Nodup:=by
   rw [List.nodup_iff_pairwise_ne,List.pairwise_map];refine h2.imp_of_mem fun {a b} ha hb hab=>?_;have:=(h1 a ha).1;have:=(h1 b hb).1;omega
  have:=List.Nodup.length_le_of_subset hn (l₂:=List.range 12) (fun x hx=>by
   obtain ⟨y,hy,rfl⟩:=It.1 hx;have:=(h1 y hy).1;have:=(h1 y hy).2.1
   rw [List.mem_range];omega)
  simpa using this
 ·have hm:L.getD i Lf.zero∈L:=by rw [aN hi];exact If hi
  refine ⟨h1 _ hm,?_⟩;unfold mB;by_cases e:i=0
  ·rw [if_pos e];have:=(h1 _ hm).1;omega
  ·rw [if_neg e,aN hi,aN (by omega:i - 1<L.length)];exact List.pairwise_iff_getElem.1 h2 (i - 1) i (by omega) hi (by omega)
def ub (T:List Sl) (sl gn:Int):Int:=if sl<0∨(T.length:Int)≤sl then 8 else if (T.getD sl.toNat Sl.zero).used=true∧(T.getD sl.toNat Sl.zero).gen=gn then 0 else 10
theorem DK {T:List Sl} (h:dN T) (sl gn:Int):∃ o,nT T sl gn o (ub T sl gn):=by
 unfold ub;by_cases h1:sl<0∨(T.length:Int)≤sl
 ·rw [if_pos h1];exact ⟨Sl.zero,Or.inr (Or.inl ⟨h,by omega,rfl,rfl⟩)⟩
 ·rw [if_neg h1];obtain ⟨i,rfl⟩:=Ih (by omega:0≤sl);rw [Id];by_cases h2:(T.getD i Sl.zero).used=true∧(T.getD i Sl.zero).gen=gn
  ·rw [if_pos h2];exact ⟨_,Or.inr (Or.inr ⟨h,i,by omega,rfl,Or.inl ⟨h2.1,h2.2,rfl,rfl⟩⟩)⟩
  ·rw [if_neg h2];refine ⟨Sl.zero,Or.inr (Or.inr ⟨h,i,by omega,rfl,Or.inr ⟨?_,rfl,rfl⟩⟩)⟩
   cases hu:(T.getD i Sl.zero).used with
   | false=>exact Or.inl rfl
   | true=>exact Or.inr ⟨rfl,fun e=>h2 ⟨hu,e⟩⟩
def eY (X:Wd) (sl:Int):Nat:=(aQ (mK sl) X.flows).toNat
theorem yz {X:Wd} (h:GwMay X) {sl gn:Int} (hc:ub X.tab sl gn=0):aQ (mK sl) X.flows=(eY X sl:Int)∧eY X sl<X.flows.length∧(X.flows.getD (eY X sl) Fl.zero).slot=sl∧(X.flows.getD (eY X sl) Fl.zero).gen=gn:=by
 unfold ub at hc;by_cases h1:sl<0∨(X.tab.length:Int)≤sl
 ·rw [if_pos h1] at hc;omega
 ·rw [if_neg h1] at hc;by_cases h2:(X.tab.getD sl.toNat Sl.zero).used=true∧(X.tab.getD sl.toNat Sl.zero).gen=gn
  ·obtain ⟨f,hf,hs⟩:=h.us sl.toNat (by omega) h2.1;have hs':f.slot=sl:=by omega
   rcases bJ (mK sl) X.flows Fl.zero with ⟨_,hn⟩|⟨i,hi,he,hp,_⟩
   ·have:=hn f hf;simp [mK,hs'] at this
   ·have ha:eY X sl=i:=by unfold eY;rw [he];simp
    rw [ha];have hsl:(X.flows.getD i Fl.zero).slot=sl:=by simpa [mK] using hp
    have hm:X.flows.getD i Fl.zero∈X.flows:=by rw [aN hi];exact If hi
    have h3:=(h.fl _ hm).sl;rw [hsl] at h3;exact ⟨he,hi,hsl,by rw [← h2.2,h3]⟩
  ·rw [if_neg h2] at hc;omega
def iV (X:Wd) (i:Nat):Wd:={ X with flows:=X.flows.set i { X.flows.getD i Fl.zero with serving:=true } }
def mD (X:Wd) (i:Nat):Wd:={ X with flows:=X.flows.set i { X.flows.getD i Fl.zero with due:=X.now+X.cf.idle },lists:=jE X.now X.lists (X.flows.getD i Fl.zero).slot X.cf.idle }
def fj (X:Wd) (e:Ev):Wd×List Out:=
 if ub X.tab e.slot e.gen≠0 then (X,[⟨10,0,0,0,0,ub X.tab e.slot e.gen,0⟩])
 else if e.kind=3 then gQ X (eY X e.slot) 7 0
 else if e.kind=2 then (if (X.flows.getD (eY X e.slot) Fl.zero).serving=true then mD X (eY X e.slot) else X,[⟨3,e.slot,e.gen,(X.flows.getD (eY X e.slot) Fl.zero).backend,0,0,0⟩])
 else if (X.flows.getD (eY X e.slot) Fl.zero).serving=true then (X,[⟨10,0,0,0,0,7,0⟩])
 else if e.good=true then (mD (bU (iV X (eY X e.slot)) (X.flows.getD (eY X e.slot) Fl.zero).backend.toNat false) (eY X e.slot),[⟨4,e.slot,e.gen,(X.flows.getD (eY X e.slot) Fl.zero).backend,0,0,0⟩])
 else eU X (eY X e.slot) 3
end
end Go.Proofs.YtfliffgmeobclaaGreat
