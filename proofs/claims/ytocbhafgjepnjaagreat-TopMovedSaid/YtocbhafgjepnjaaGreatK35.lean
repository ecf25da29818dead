/- Texts of the row's proof. Conditions: none. -/
import Derived.Test.YtocbhafgjepnjaaGreatK22
import Derived.Test.YtocbhafgjepnjaaGreatK31
import Derived.Test.YtocbhafgjepnjaaGreatK34
namespace Go.Proofs.YtocbhafgjepnjaaGreat
set_option maxRecDepth 100000
set_option maxHeartbeats 8000000
section
open Go.RowKit
theorem Q2 {p:Prop} (h:p:=by
 rintro e w5 hc5;obtain ⟨S5,V5,vo5,rfl,G5,_,f5,_⟩:=hc5;obtain ⟨a5,c5,rfl,hD⟩:=DoG.of (w:=w) G5 hN3 HG.out.2.2.2.2 HG.out.2.2.2.1 HG.out.2.2.1 f5 HG.out.2.1
 try rw [List.nil_append] at hD
 rw [← hR1] at hD;have HD:=Ib hD.drew;have HD0:=Ib (show w5.heap[w3.heap.size]?=some (.cells (cQ R.1 V5++[Value.slice a5 R.2.length c5]).toArray 126 (0,0))∧w5.cell? ⟨w3.heap.size,26,none⟩=some (.slice a5 R.2.length c5) from ⟨hD.hp,by rw [aa hD.hp 26];rfl⟩);have HNe:=Ib (show w3.heap.size≠w.heap.size+2 by have:=hD.ne;omega);have l5:=lt_of_block hD.hp;have x26:=HD0.out.2;clear G5 f5 hD hR1 y0 l3;go_wp2_with fail;refine Zr (fun w':World=>w'.heap[w3.heap.size]?=some (.cells (cQ R.1 V5++[Value.slice a5 R.2.length c5]).toArray 126 (0,0))∧w'.cell? ⟨w3.heap.size,26,none⟩=some (.slice a5 R.2.length c5)) (fun hHeld=>?_) (by (try dsimp only);(first|exact HD0.out|exact ⟨aZ HD0.out.1 HNe.out,bB HD0.out.2 HNe.out⟩));refine dd 0 ?_;refine Zt 2 ?_;refine eP 4 ?_;refine Z1 3 (fun K hK=>?_);rw [if_pos (by rfl)];(first|(refine wp_load_mid 54 (.tmp 55) rfl w3.heap.size 0 rfl (cQ R.1 V5) _ (uS HD.out.hp) Tryz.underlying54 rfl (by kernel_rfl) ?_)|(refine IQ 54 (.tmp 4) (.tmp 56) rfl (w.heap.size+2) (cQ R.1 V5).toArray rfl rfl 54 bQ HD.out.hz (by kernel_rfl) rfl (kj HD.out.wk) ?_));refine Zk hK (hS:=by (try dsimp only);(first|exact HD0.out|exact ⟨aZ HD0.out.1 HNe.out,bB HD0.out.2 HNe.out⟩)) fun hHeld=>?_;clear hK K;refine Z1 8 (fun K hK=>?_);rw [if_pos (by rfl)];(first|(refine wp_load_mid 54 (.tmp 55) rfl w3.heap.size 0 rfl (cQ R.1 V5) _ (uS HD.out.hp) Tryz.underlying54 rfl (by kernel_rfl) ?_)|(refine IQ 54 (.tmp 4) (.tmp 56) rfl (w.heap.size+2) (cQ R.1 V5).toArray rfl rfl 54 bQ HD.out.hz (by kernel_rfl) rfl (kj HD.out.wk) ?_));refine Zk hK (hS:=by (try dsimp only);(first|exact HD0.out|exact ⟨aZ HD0.out.1 HNe.out,bB HD0.out.2 HNe.out⟩)) fun hHeld=>?_;clear hK K;refine dd 9 ?_;refine Zd ?_;go_wp2_with fail;refine IM (v:=.tuple #[.agg (cQ R.1 V5).toArray,.slice a5 R.2.length c5,.int .i64 0]) ?_ rfl ?_
 ·exact mi Tryz.results24 _ _ (w.heap.size+2) 54 (cQ R.1 V5).toArray (0,0) _ _ _ rfl rfl rfl (aX HD.out.hz) Tryz.underlying54 rfl (by kernel_rfl)
 ·exact ⟨V5,a5,c5,rfl,(HD.out.fin _).1,(HD.out.fin _).2.1,(HD.out.fin _).2.2⟩):p:=h
theorem Q4 {p:Prop} (h:p:=by
 have HAz:=Ib (HA1.out.below hbz);have hpz:=HAz.out.plt;have d5:=ae hbz d5 k1;have x8:=ae hbz x8 hp1;by_cases hre:f5=X.cf.retries
 ·subst hre;go_wp2_with fail;refine Zr (fun w':World=>w'.cell? ⟨p,8,none⟩=some (.int .i64 X.cf.retries)∧w'.cell? ⟨g,i*7+5,none⟩=some (.int .i64 X.cf.retries)) (fun hHeld=>?_);refine eB 0 ?_;refine eP 8 ?_;refine dd 12 ?_;refine Zt 14 ?_;refine Zd ?_;refine aW _ (fun wy hwy=>?_)
  have hby:Below wz.heap.size wz wy:=by rw [hwy];exact Id (Ic _ _)
  have HAy:=Ib (HAz.out.below hby);clear hwy;clear hby hbz hnz;go_wp2_with (go_at_call 99;refine (ii HAy.out.g i hi1 (by rw [HEf1.out];omega) ⟨6,0,0,0,0,0,why⟩ _ HF1.out _ (HM1.out.drop HFm1.out) (HM1.out.tabd HFm1.out) HM1.out.bk HM1.out.wh HM1.out.wn (by omega)).mono ?_;rintro e w3 hc3;obtain ⟨S3,V3,vo3,rfl,A3,hq3,hz3,hb3⟩:=HAy.out.call hc3;clear hc3);have HA3:=Ib A3;clear A3;go_wp2_with fail;refine IM (v:=.tuple #[]) (by simp [results,Tryz.results100,go_sem]) rfl ?_;rw [E3 HF.out why (Or.inl rfl),Iu,← HX1.out,By HF1.out,Bv HF1.out];exact HA3.out.fin trivial
 ·have hne:(f5 == X.cf.retries)=false:=by simpa using hre
  go_wp2_with fail;refine Zr (fun w':World=>w'.cell? ⟨p,8,none⟩=some (.int .i64 X.cf.retries)∧w'.cell? ⟨g,i*7+5,none⟩=some (.int .i64 f5)) (fun hHeld=>?_);refine eB 0 ?_;refine eP 8 ?_;refine dd 12 ?_;refine Zt 14 ?_;refine Zd ?_;refine aW _ (fun wy hwy=>?_)
  have hby:Below wz.heap.size wz wy:=by rw [hwy];exact Id (Ic _ _)
  have HAy:=Ib (HAz.out.below hby);clear hwy;have hbz0:=hbz.size;have hzy:Below w1.heap.size w1 wy:=hbz.trans (hby.mono hbz.size);have hny:=ai hby hnz (lt_of_block hnz);have d5:=ae hby d5 (by have:=hbz0;omega);have d0:=ae hzy d0 k1;have d1:=ae hzy d1 k1;have d2:=ae hzy d2 k1;have d3:=ae hzy d3 k1;have d6:=ae hzy d6 k1;have x7:=ae hzy x7 hp1
  have gy:g<wy.heap.size:=by have:=hzy.size;omega
  have py:p<wy.heap.size:=HAy.out.plt;have hzy1:=hzy.size;clear hbz hby hnz hzy x10 x11 x12 x23;obtain ⟨pb,pc,hpw⟩:∃ pb pc,dp X1 ky (s:Int)=(pb,pc):=⟨_,_,rfl⟩;have HPk:=Ib (show uq X1 ky (s:Int) pb pc from by have:=HM1.out.pick ky (HM1.out.butF HFm1.out);simp only at this;rw [hpw] at this;exact this);have HPw:=Ib hpw;clear hpw;go_wp2_with fail;refine Zr (fun w':World=>w'.cell? ⟨g,i*7,none⟩=some (.int .i64 (s:Int))∧w'.cell? ⟨g,i*7+2,none⟩=some (.int .i64 (ky:Int))) (fun hHeld=>?_);refine eB 0 ?_;refine dd 8 ?_;refine Z1 10 (fun K hK=>?_);go_simp;(go_at_call 86;refine (pW (fJ HAy.out.g.gr Zb) ky (s:Int) hky HM1.out.ring (HM1.out.load (by have:=hs;rw [HX1.out];simp only [bO];omega)) (by rw [HEf1.out];omega) _ _ HPk.out).mono ?_;rintro e w3 ⟨rfl,hb3⟩;have hz3:=hb3.size;(try simp at hz3);(try dsimp only));(try go_wp2_with fail);refine Zk hK fun hHeld=>?_;clear hK K;refine eP 11 ?_;refine Zt 15 ?_;refine Zd ?_;have h3:Below wy.heap.size wy w3:=Ig (Id (Ic _ _)) (hb3.mono (by simp));have HAy:=Ib (HAy.out.below h3)
  have hnor:¬ (f5=X.cf.retries∨X.tok<X.cf.bd):=by rintro (e|e);exact hre e;omega
  have HNr:=Ib hnor;clear hnor;by_cases hpc:pc=0
  ·subst hpc;have HPw2:=Ib (show (dp (bO X (Int.toNat (bk:Int)) true) (Int.toNat (ky:Int)) (s:Int))=(pb,0) from by rw [Iu,Iu,← HX1.out];exact HPw.out);have hpb:=zp HM1.out (HM1.out.butF HFm1.out) (key:=ky) (by simp only;rw [HPw.out]);simp only at hpb;rw [HPw.out] at hpb;obtain ⟨pb0,pb1⟩:0≤pb∧pb≤11:=hpb;have d0:=ae h3 d0 gy;have d1:=ae h3 d1 gy;have d2:=ae h3 d2 gy;have d3:=ae h3 d3 gy;have d5:=ae h3 d5 gy;have d6:=ae h3 d6 gy;have x7:=ae h3 x7 py;have hn3:=ai h3 hny (lt_of_block hny);have n0:w3.cell? ⟨nb,0,none⟩=some (.int .i64 (X.tok - X.cf.bd)):=aa hn3 0;have x23:=HAy.out.c 23 (v:=.int .i64 X1.tok) rfl;have xf:∀ n,w3.frozen? ⟨p,n,none⟩=false:=fun n=>HAy.out.free n
   have g3:g<w3.heap.size:=by have:=h3.size;omega
   have p3:p<w3.heap.size:=HAy.out.plt;clear h3 hb3;go_wp2_with fail;refine aW _ (fun wt hwt=>?_);have HAt:=Ib (show GA B p w S wt { X1 with tok:=X.tok - X.cf.bd } O S1 V1 vo1 from by rw [hwt];exact HAy.out.cell 23 (.int .i64 (X.tok - X.cf.bd)) { X1 with tok:=X.tok - X.cf.bd } V1 rfl rfl rfl rfl rfl rfl { HAy.out.g.ro with })
   have ht:∀ b,b≠p→wt.heap[b]?=w3.heap[b]?:=fun b hb=>by rw [hwt];exact Ii _ _ _ _ hb
   have htz:wt.heap.size=w3.heap.size:=by rw [hwt];simp
   have tg:∀ j v,w3.cell? ⟨g,j,none⟩=some v→wt.cell? ⟨g,j,none⟩=some v:=fun j v e=>(Ip (w:=w3) (w':=wt) (a:=⟨g,j,none⟩) (ht g hg2)).trans e;have d0:=tg _ _ d0;have d1:=tg _ _ d1;have d3:=tg _ _ d3;have d5:=tg _ _ d5;have d6:=tg _ _ d6
   have x7:wt.cell? ⟨p,7,none⟩=some (.int .i64 X.cf.connect):=by have:=HAt.out.c 7 (v:=.int .i64 X1.cf.connect) rfl;rw [HEc1.out] at this;exact this
   have x17:=HAt.out.c 17 (v:=V1.t) rfl;obtain ⟨at_,ct,et,_⟩:=aj HAt.out.g.gr.1.ta.1;rw [et] at x17;have HTb:=Ib HAt.out.g.gr.1.ta.1;rw [et] at HTb;have gt:g<wt.heap.size:=by omega
   have pt:p<wt.heap.size:=by omega
   have xf:∀ n,wt.frozen? ⟨p,n,none⟩=false:=fun n=>HAt.out.free n;clear hwt ht htz tg n0 hn3 x23 et d2;obtain ⟨Y,hY⟩:∃ Y,Y=X1.tab.set (s:Int).toNat ⟨f1,true,(ky:Int),pb⟩:=⟨_,rfl⟩;have HMv:=Ib (show um X1.tab (s:Int) f1 pb Y 0 from by rw [hY];exact HM1.out.move HFm1.out pb0 pb1)
   have hYm:dM Y:=by rw [hY];exact oQ HM1.out.tb _ (by unfold ds;rw [if_pos rfl];simp only;omega)
   have HY:=Ib hY;have HYm:=Ib hYm;clear hY hYm;refine Zr (fun w':World=>w'.cell? ⟨g,i*7,none⟩=some (.int .i64 (s:Int))∧w'.cell? ⟨g,i*7+1,none⟩=some (.int .i64 f1)) (fun hHeld=>?_);refine eP 0 ?_;refine Zt 4 ?_;refine eP 6 ?_;refine Zt 10 ?_;refine Z1 5 (fun K hK=>?_);go_simp;refine Zk hK fun hHeld=>?_;clear hK K;refine Z1 11 (fun K hK=>?_);go_simp;(go_at_call 148;refine (AA X1.tab _ _ _ _ 0 _ _ (aq HTb.out Zb) HMv.out).mono ?_;rintro e w4 ⟨v4,rfl,R4,hb4⟩;obtain ⟨a4,c4,rfl,_⟩:=aj R4.1;have hz4:=hb4.size;(try simp at hz4);have bw4:Below wt.heap.size wt w4:=Ig (Id (Ic wt.heap.size wt)) (hb4.mono (by simp));have x17:=ae bw4 x17 pt;have xf:∀ n,w4.frozen? ⟨p,n,none⟩=false:=(fun n=>(bw4.frozen (p:=⟨p,n,none⟩) pt).trans (xf n));(try dsimp only));(try go_wp2_with fail);refine Zk hK fun hHeld=>?_;clear hK K;refine eP 12 ?_;refine dd 16 ?_;refine Z1 18 (fun K hK=>?_);go_simp;refine Zk hK fun hHeld=>?_;clear hK K;refine Zd ?_;refine aW _ (fun w5 hw5=>?_);have A4:=HAt.out.below bw4;have HA5:=Ib (show GA B p w S w5 { X1 with tok:=X.tok - X.cf.bd,tab:=Y } O S1 { V1 with t:=.slice a4 Y.length c4 } vo1 from by rw [hw5];exact A4.cell 17 (.slice a4 Y.length c4) { X1 with tok:=X.tok - X.cf.bd,tab:=Y } { V1 with t:=.slice a4 Y.length c4 } rfl rfl rfl rfl rfl rfl { A4.g.ro with ta:=dl HAt.out.g R4 (by simp) });clear A4 hw5 x17 xf d0 d1 d3 d5 d6 x7 hb4 bw4 R4 HTb;obtain ⟨_,q1,q2,q3,q4,q5⟩:=HA5.out.flow HEv1.out (X:={ X1 with tok:=X.tok - X.cf.bd,tab:=Y }) hi1 HF1.out;have d3:w5.cell? ⟨g,i*7+3,none⟩=some (.int .i64 (bk:Int)):=q5 3 (by omega);have d5:w5.cell? ⟨g,i*7+5,none⟩=some (.int .i64 f5):=q5 5 (by omega)
   have x7:w5.cell? ⟨p,7,none⟩=some (.int .i64 X.cf.connect):=by have:=HA5.out.c 7 (v:=.int .i64 X1.cf.connect) rfl;rw [HEc1.out] at this;exact this
   have p5:p<w5.heap.size:=HA5.out.plt;clear q5;go_wp2_with fail;obtain ⟨w6,hw6⟩:∃ w6,w6=(w5.setCell ⟨g,i*7+3,none⟩ (.int .i64 pb)).setCell ⟨g,i*7+5,none⟩ (.int .i64 (f5+1)):=⟨_,rfl⟩;rw [← hw6];have A6:=(HA5.out.flset HEv1.out (i*7+3) (.int .i64 pb) (X1.flows.set i ⟨(s:Int),f1,(ky:Int),pb,f4,f5,f6⟩) (by simp) (nC hi1 HF1.out 3 (by omega) (.int .i64 pb) ⟨(s:Int),f1,(ky:Int),pb,f4,f5,f6⟩ rfl));have A6:=(A6.flset HEv1.out (i*7+5) (.int .i64 (f5+1)) ((X1.flows.set i ⟨(s:Int),f1,(ky:Int),pb,f4,f5,f6⟩).set i ⟨(s:Int),f1,(ky:Int),pb,f4,f5+1,f6⟩) (by simp) (nC (by simpa using hi1) (qF hi1 _) 5 (by omega) (.int .i64 (f5+1)) ⟨(s:Int),f1,(ky:Int),pb,f4,f5+1,f6⟩ rfl));rw [← hw6,List.set_set] at A6;simp only at A6;have HA6:=Ib A6;obtain ⟨_,q1,q2,q3,q4,q5⟩:=HA6.out.flow HEv1.out (i:=i) (by simpa using hi1) (qF hi1 ⟨(s:Int),f1,(ky:Int),pb,f4,f5+1,f6⟩);have d0:w6.cell? ⟨g,i*7,none⟩=some (.int .i64 (s:Int)):=q5 0 (by omega);have d6:w6.cell? ⟨g,i*7+6,none⟩=some (.int .i64 f6):=q5 6 (by omega);have hcn:=HX.out.cf.1.1;have hn1:=HM1.out.n1
   have htm:dJ ⟨X1.now+X.cf.connect,(s:Int)⟩ X1.now:=by unfold dJ;simp only;have:=HX.out.tb.2.1;omega
   have HTm:=Ib htm;clear A6 hw6 q5 d3 d5 x7 htm hcn hn1;refine (mm HA6.out.g g (i*7) (s:Int) X.cf.connect (X1.flows.set i ⟨(s:Int),f1,(ky:Int),pb,f4,f5+1,X1.now+X.cf.connect⟩) _ HA6.out.g.sp q1 hg2 d0 f6 d6 (q4 _) (fun w' X' V' gG ef ev _ _=>mR gG (by rw [ev];exact HEv1.out) (i*7+6) _ _ (by rw [ef];simp) (by rw [ef];have:=nC (F:=X1.flows.set i ⟨(s:Int),f1,(ky:Int),pb,f4,f5+1,f6⟩) (i:=i) (by simpa using hi1) (qF hi1 _) 6 (by omega) (.int .i64 (X1.now+X.cf.connect)) ⟨(s:Int),f1,(ky:Int),pb,f4,f5+1,X1.now+X.cf.connect⟩ rfl;rw [List.set_set] at this;exact this)) HM1.out.wh HM1.out.wn HTm.out).mono ?_;rintro e w7 ⟨V7,rfl,G7,hK7,hF7,_⟩;have HA7:=Ib (HA6.out.same G7 hF7)
   have ev7:V7.f=.slice (some ⟨g,0,none⟩) X.flows.length cfl:=by rw [hK7.1];exact HEv1.out
   obtain ⟨_,k1,k2,k3,k4,k5⟩:=HA7.out.flow ev7 (i:=i) (by simpa using hi1) (qF hi1 ⟨(s:Int),f1,(ky:Int),pb,f4,f5+1,X1.now+X.cf.connect⟩);have d0:w7.cell? ⟨g,i*7,none⟩=some (.int .i64 (s:Int)):=k5 0 (by omega);have d1:w7.cell? ⟨g,i*7+1,none⟩=some (.int .i64 f1):=k5 1 (by omega);have p7:p<w7.heap.size:=HA7.out.plt;have hXe:=Ib (show fZ X1 i pb={ X1 with tok:=X.tok - X.cf.bd,tab:=Y,flows:=X1.flows.set i ⟨(s:Int),f1,(ky:Int),pb,f4,f5+1,X1.now+X.cf.connect⟩,lists:=jH X1.now X1.lists (s:Int) X.cf.connect } from by unfold fZ;rw [HF1.out,HEt1.out,HEc1.out,HY.out]);have HEv7:=Ib ev7;have hi7:i<(X1.flows.set i ⟨(s:Int),f1,(ky:Int),pb,f4,f5+1,X1.now+X.cf.connect⟩).length:=by simpa using hi1
   have HF7:=Ib (qF hi1 ⟨(s:Int),f1,(ky:Int),pb,f4,f5+1,X1.now+X.cf.connect⟩);have l0:0<7:=by omega
   have l1:1<7:=by omega
   clear G7 hK7 hF7 ev7 k5;go_wp2_with fail;refine Zr (fun w':World=>w'.cell? ⟨g,i*7,none⟩=some (.int .i64 (s:Int))∧w'.cell? ⟨g,i*7+1,none⟩=some (.int .i64 f1)) (fun hHeld=>?_) (by (try dsimp only);((go_split_ands;(try dsimp only);(repeat' apply And.intro);all_goals (first|with_reducible assumption|with_reducible exact ce ‹_›|trivial))));refine eB 0 ?_;refine eP 8 ?_;refine Zt 12 ?_;refine Z1 13 (fun K hK=>?_);go_simp;(go_at_call 85;refine (dm (dA HA7.out.g Zb) ⟨5,(s:Int),f1,pb,0,0,0⟩ (by omega)).mono ?_;rintro e w8 hc8;obtain ⟨S8,V8,vo8,rfl,A8,hq8,hz8,hb8⟩:=(HA7.out.below (Id (Ic _ _))).call hc8;subst hq8;obtain ⟨_,_,_,_,_,k8⟩:=A8.flow HEv7.out hi7 HF7.out;have d0:w8.cell? ⟨g,i*7,none⟩=some (.int .i64 (s:Int)):=k8 0 l0;have d1:w8.cell? ⟨g,i*7+1,none⟩=some (.int .i64 f1):=k8 1 l1;clear hc8 k8;(try dsimp only));(try go_wp2_with fail);refine Zk hK (hS:=by (try dsimp only);((go_split_ands;(try dsimp only);(repeat' apply And.intro);all_goals (first|with_reducible assumption|with_reducible exact ce ‹_›|trivial)))) fun hHeld=>?_;clear hK K;refine Zd ?_;have HA8:=Ib A8;have e:=fail_c HF.out why HNr.out (show (dp (bO X (Int.toNat (bk:Int)) true) (Int.toNat (ky:Int)) (s:Int)).2=0 from by rw [HPw2.out]);simp only at e;rw [HPw2.out,Iu,← HX1.out] at e;simp only at e;have HE:=Ib e;clear A8 e d0 d1 k1 k2 k3 k4 hb8;by_cases hbp:(bk:Int)=pb
   ·subst hbp;go_wp2_with fail;refine IM (v:=.tuple #[]) (by simp [results,Tryz.results100,go_sem]) rfl ?_;rw [HE.out,if_pos (by trivial)];simp only;rw [hXe.out];exact HA8.out.fin trivial
   ·have hne:((bk:Int) != pb)=true:=by simpa using hbp
    have HNe:=Ib hbp;clear hbp;go_wp2_with fail;refine (kb HA8.out.g (bk:Int) HM1.out.bk HYm.out (by rw [It,List.length_singleton];omega)).mono ?_;rintro e w9 hc9;obtain ⟨S9,V9,vo9,rfl,A9,hq9,hz9,hb9⟩:=HA8.out.call hc9;have HA9:=Ib A9;clear hc9 A9 hq9 hb9;go_wp2_with fail;refine IM (v:=.tuple #[]) (by simp [results,Tryz.results100,go_sem]) rfl ?_;rw [HE.out,if_neg HNe.out];simp only;rw [hXe.out,List.append_cons];exact HA9.out.fin trivial
  ·have hne:(pc != 0)=true:=by simpa using hpc
   have HPc:=Ib (show (dp (bO X (Int.toNat (bk:Int)) true) (Int.toNat (ky:Int)) (s:Int)).2≠0 from by rw [Iu,Iu,← HX1.out,HPw.out];exact hpc);clear h3 hb3 hpc;go_wp2_with (go_at_call 99;refine (ii HAy.out.g i hi1 (by rw [HEf1.out];omega) ⟨6,0,0,0,0,0,4⟩ _ HF1.out _ (HM1.out.drop HFm1.out) (HM1.out.tabd HFm1.out) HM1.out.bk HM1.out.wh HM1.out.wn (by omega)).mono ?_;rintro e w3 hc3;obtain ⟨S3,V3,vo3,rfl,A3,hq3,hz3,hb3⟩:=HAy.out.call hc3;clear hc3);have HA3:=Ib A3;clear A3;go_wp2_with fail;refine IM (v:=.tuple #[]) (by simp [results,Tryz.results100,go_sem]) rfl ?_;rw [fail_b HF.out why HNr.out HPc.out,Iu,← HX1.out,By HF1.out,Bv HF1.out];exact HA3.out.fin trivial):p:=h
theorem Q14 {p:Prop} (h:p:=by
 refine eB 0 ?_;refine eP 8 ?_;refine dd 12 ?_;refine Zt 14 ?_;refine Zd ?_;refine aW _ (fun wy hwy=>?_)
 have hby:Below wz.heap.size wz wy:=by rw [hwy];exact Id (Ic _ _)
 have HAy:=Ib (HAz.out.below hby);clear hwy;clear hby hbz hnz;go_wp2_with (go_at_call 99;refine (ii HAy.out.g i hi1 (by rw [HEf1.out];omega) ⟨6,0,0,0,0,0,why⟩ _ HF1.out _ (HM1.out.drop HFm1.out) (HM1.out.tabd HFm1.out) HM1.out.bk HM1.out.wh HM1.out.wn (by omega)).mono ?_;rintro e w3 hc3;obtain ⟨S3,V3,vo3,rfl,A3,hq3,hz3,hb3⟩:=HAy.out.call hc3;clear hc3);have HA3:=Ib A3;clear A3;go_wp2_with fail;refine IM (v:=.tuple #[]) (by simp [results,Tryz.results100,go_sem]) rfl ?_;rw [E3 HF.out why (Or.inr hsp),Iu,← HX1.out,By HF1.out,Bv HF1.out];exact HA3.out.fin trivial):p:=h
theorem Q26 {p:Prop} (h:p:=by
 refine aW _ (fun wz hwz=>?_);have hba:Below w2.heap.size w2 w3:=Ig (Id ((Ic _ _).alloc (Ij _) _)) (hb3.mono (by simp));have hle:=Ij w2.heap.size
 have hbz:Below w2.heap.size w2 wz:=by rw [hwz];exact (hba.setCell hle _).setCell hle _
 have h1:aM w2.heap.size wz 6 (.slice a1 L'.length c1) (L'.map Lf.cells):=by rw [hwz];exact aE (aA (aA R1 (by simp) _) (by simp) _) (by simp)
 have h2:aM w2.heap.size wz 5 (.slice a2 R'.length c2) (R'.map Rq.cells):=by rw [hwz];exact aE (aA (aA R2 (by simp) _) (by simp) _) (by simp)
 obtain ⟨nb,hnb⟩:∃ nb,nb=w2.heap.size:=⟨_,rfl⟩
 have hnz:wz.heap[nb]?=some (.cells #[.slice a1 L'.length c1,.slice a2 R'.length c2] 43 (0,0)):=by rw [hwz,hnb];exact aP (j:=1) (aP (j:=0) bxb (.slice a1 L'.length c1)) (.slice a2 R'.length c2)
 rw [← hnb];exact key nb a1 c1 a2 c2 wz ⟨hbz,hnz,h1,h2⟩):p:=h
theorem Q32 {p:Prop} (h:p:=by
 refine aW _ (fun wz hwz=>?_)
 have hbz:Below w2.heap.size w2 wz:=by rw [hwz];exact (Ig (Id (Ic _ _)) (hb3.mono (by simp))).alloc (by omega) _
 have h1:aM w2.heap.size wz 6 (.slice a1 L'.length c1) (L'.map Lf.cells):=by rw [hwz];exact cO (aE R1 (by simp)) _
 have h2:aM w2.heap.size wz 5 (.slice a2 R'.length c2) (R'.map Rq.cells):=by rw [hwz];exact cO (aE R2 (by simp)) _
 obtain ⟨nb,hnb⟩:∃ nb,nb=w3.heap.size:=⟨_,rfl⟩
 have hnz:wz.heap[nb]?=some (.cells #[.slice a1 L'.length c1,.slice a2 R'.length c2] 43 (0,0)):=by rw [hwz];exact au _ hnb
 rw [← hnb];exact key nb a1 c1 a2 c2 wz ⟨hbz,hnz,h1,h2⟩):p:=h
theorem Q40 {p:Prop} (h:p:=by
 go_wp2_with fail;go_quiet (fail);go_wp2;go_roundw
 case rel=>exact ⟨k+1,by omega,by go_num,HS.out.step (HKe.out (by decide)) (by repeat (first|exact Ic _ _|refine aI ?_|refine Ih ?_ (by first|omega|(simp;done)|(simp;omega)) _))⟩
 case measure=>simp [intOf];omega):p:=h
theorem Q53 {p:Prop} (h:p:=by
 refine eB 0 ?_;refine eP 8 ?_;refine Zt 12 ?_;refine Zd ?_;go_wp2;go_roundw;(case rel=>(refine ⟨k+1,by omega,by go_num,SD,V4,vo4,?_,?_⟩;(rw [HE.out];exact HA9.out.below (Id (Ic _ _)));(exact bV HL9.out (Fr.of_below (Id (Ic _ _)):Fr SD w5 _) (fun _ hx=>Or.inl hx))));(case measure=>(simp [intOf];omega))):p:=h
theorem Q57 {p:Prop} (h:p:=by
 unfold ib
 split
 ·unfold nG ep
  split
  ·simp
  ·split
   ·simp
   ·simp
 ·split
  ·rw [kV (fun o ho=>by rcases zR ho with g|g<;>rw [g]<;>decide)];simp
  ·split
   ·rw [kV (fun o ho=>by rcases uF ho with g|g|g<;>rw [g]<;>decide)];simp
   ·rw [kV (fun o ho=>vX ho)];simp):p:=h
theorem Q68 {p:Prop} (h:p:=by
 have HAz:=Ib (HA1.out.below hbz);have hpz:=HAz.out.plt;have d5:=ae hbz d5 k1;have x8:=ae hbz x8 hp1;by_cases hre:f5=X.cf.retries
 ·subst hre;go_wp2_with fail;refine Zr (fun w':World=>w'.cell? ⟨p,8,none⟩=some (.int .i64 X.cf.retries)∧w'.cell? ⟨g,i*7+5,none⟩=some (.int .i64 X.cf.retries)) (fun hHeld=>?_);exact Q14
 ·have hne:(f5 == X.cf.retries)=false:=by simpa using hre
  go_wp2_with fail;refine Zr (fun w':World=>w'.cell? ⟨p,8,none⟩=some (.int .i64 X.cf.retries)∧w'.cell? ⟨g,i*7+5,none⟩=some (.int .i64 f5)) (fun hHeld=>?_);exact Q14):p:=h
theorem Q73 {p:Prop} (h:p:=by
 have hne:(ans != 0)=true:=by simpa using ha0
 have HNe:=Ib ha0;clear ha0;go_wp2_with fail;refine IM (v:=.tuple #[]) (by simp [results,Tryz.results45,go_sem]) rfl ?_;rw [HAW.out];unfold jb;simp only;rw [if_pos (by simp [HNe.out])];exact HA5.out.fin trivial):p:=h
theorem Q167 {p:Prop} (h:p:=by
 rintro (g|g|g)
 ·exact Or.inr (Or.inl g)
 ·exact Or.inl g
 ·exact Or.inr (Or.inr g)):p:=h
theorem Q80 {p:Prop} (h:p:=by
 simp only [List.mem_append,List.mem_cons];constructor
 ·exact Q167
 ·exact Q167):p:=h
theorem Q87 {p:Prop} (h:p:=by
 obtain ⟨h0,h1,h3,h4,h5,h6,h7,h8,h9,k0,k1,k2,l0,l1,l2⟩:=h;exact ⟨k _ _ h0,k _ _ h1,k _ _ h3,k _ _ h4,k _ _ h5,k _ _ h6,k _ _ h7,k _ _ h8,k _ _ h9,k _ _ k0,k _ _ k1,k _ _ k2,k _ _ l0,k _ _ l1,k _ _ l2⟩):p:=h
theorem Q91 {p:Prop} (h:p:=by
 exact ⟨hR,fun _ g=>absurd g (by decide),by rw [uh (Or.inr (Or.inl (by decide)))];exact h.req hR⟩):p:=h
theorem Q100 {p:Prop} (h:p:=by
 go_wp2_with fail;refine IM (v:=.tuple #[]) (by simp [results,Tryz.results45,go_sem]) rfl ?_;rw [HAW.out];unfold jb;simp only;rw [if_pos (Or.inl trivial)];exact HA5.out.fin trivial):p:=h
theorem Q108 {p:Prop} (h:p:=by
 go_wp2;go_roundw
 case rel=>exact ⟨k+1,by omega,by go_num,H5.out.1.alloc H5.out.1.size _,(heap_alloc_old _ _ l5').trans H5.out.2⟩
 case measure=>simp [intOf];omega):p:=h
theorem Q117 {p:Prop} (h:p:=by
 rw [if_neg h,List.pairwise_cons,List.pairwise_cons];refine ⟨fun g hg=>?_,hs⟩;rcases List.mem_cons.1 hg with rfl|hg
 ·omega
 ·have:=hs.1 g hg;omega):p:=h
theorem Q118 {p:Prop} (h:p:=by
 rw [List.nodup_iff_pairwise_ne,List.pairwise_map];refine h.so.imp_of_mem fun {a b} ha hb hab=>?_;have h1:=(h.fl a ha).s0;have h2:=(h.fl b hb).s0;omega):p:=h
theorem Q121 {p:Prop} (h:p:=by
 rw [mt]
 cases cW L b with
 | none=>rfl
 | some x=>
  simp only [Option.map_some,IJ];unfold Lf.wk;by_cases e:x.state=1<;>simp [e]):p:=h
theorem Q124 {p:Prop} (h:p:=by
 rcases List.mem_append.1 h with h|h
 ·exact Or.inl h
 ·rcases p9 h with h|h
  ·exact Or.inr (Or.inl h)
  ·exact Or.inr (Or.inr (Or.inr h))):p:=h
theorem Q125 {p:Prop} (h:p:=by
 have h3:(em X.now X.flows).length≤X.flows.length:=by unfold em;rw [Iq];exact List.length_filter_le _ _
 have:=h.len;omega):p:=h
theorem Q132 {p:Prop} (h:p:=by
 rw [aK (by rw [gO];omega)];simp only [gC,List.getElem_map,List.getElem_range];rw [Int.toNat_of_nonneg h0]):p:=h
theorem Q133 {p:Prop} (h:p:=by
 rw [show (dK L).getD b 0=0 by simp only [List.getD];rw [IB (by rw [cA];omega)];rfl];omega):p:=h
theorem Q134 {p:Prop} (h:p:=by
 simp only [List.mem_append,List.mem_cons] at hk ⊢;rcases hk with hk|hk
 ·exact Or.inl hk
 ·exact Or.inr (Or.inr hk)):p:=h
theorem Q148 {p:Prop} (h:p:=by
 refine Int.ediv_le_of_le_mul (by omega) ?_;exact Int.mul_le_mul_of_nonneg_left (by omega) (by omega)):p:=h
theorem Q150 {p:Prop} (h:p:=by
 rcases Nat.lt_or_ge j L.length with g|g
 ·exact g
 ·rw [IB g] at hj
  cases hj):p:=h
theorem Q152 {p:Prop} (h:p:=by
 go_enter Tryz.func33,Tryz.ntmps33;go_wp2
 all_goals first|(go_ret;exact ⟨rfl,rfl⟩)|exact Zx):p:=h
theorem Q154 {p:Prop} (h:p:=by
 obtain ⟨c,hc,hu⟩:=List.mem_flatten.1 hu;obtain ⟨x,_,rfl⟩:=II.1 hc;exact Q78):p:=h
theorem Q160 {p:Prop} (h:p:=by
 rw [hl] at hs;simp only [Option.map_some,IJ] at hs ⊢;unfold Lf.wk;simp [hs]):p:=h
theorem Q164 {p:Prop} (h:p:=by
 exact ⟨h.bk,(fun g=>absurd g (by decide)),by rw [uh (Or.inl rfl)];exact h⟩):p:=h
theorem Q165 {p:Prop} (h:p:=by
 rcases List.mem_cons.1 h with rfl|h
 ·exact Or.inl rfl
 ·exact Or.inr (pG h)):p:=h
theorem Q166 {p:Prop} (h:p:=by
 rintro (h|h|h)
 ·exact Or.inr (Or.inl h)
 ·exact Or.inl h
 ·exact Or.inr (Or.inr h)):p:=h
theorem Q170 {p:Prop} (h:p:=by
 have h1:=(h.fl f hf).sl;rw [hs,Iu] at h1;rw [h1] at hb;exact hb):p:=h
theorem Q171 {p:Prop} (h:p:=by
 rcases ts hs hi hb hx with rfl|⟨hx,_⟩
 ·exact hsi
 ·exact h.si x hx):p:=h
instance (L:List Ld) (C:List Int) (i:Nat):Decidable (oF L C i):=by unfold oF;infer_instance
def jw (L:List Ld) (C:List Int):Nat→Int
 | 0=>-1
 | k+1=>if oF L C k then (if jw L C k<0∨rZ L k*r8 L (jw L C k).toNat<rZ L (jw L C k).toNat*r8 L k then (k:Int) else jw L C k) else jw L C k
theorem qO (L:List Ld) (C:List Int):∀ n,eE L C 0 n (jw L C n)
 | 0=>qN 0
 | k+1=>by
  have h:=qO L C k;unfold jw;by_cases hk:oF L C k
  ·rw [if_pos hk];by_cases hn:jw L C k<0∨rZ L k*r8 L (jw L C k).toNat<rZ L (jw L C k).toNat*r8 L k
   ·rw [if_pos hn];exact kB h hk hn
   ·rw [if_neg hn];exact mN h (by omega) (fun h2=>hn (Or.inr h2))
  ·rw [if_neg hk];exact lY h hk
def qh (Wk:List Int) (L:List Ld) (num den flows tries:Int):Int×Int:=
 if ∀ x∈L,¬ 0<x.weight then (0,11)
 else if 0≤dI L (bU L num den flows) Wk tries then ((L.getD (dI L (bU L num den flows) Wk tries).toNat Ld.zero).backend,0)
 else if 0≤jw L (bU L num den flows) L.length then ((L.getD (jw L (bU L num den flows) L.length).toNat Ld.zero).backend,0) else (0,9)
theorem AF {Wk:List Int} {L:List Ld} {num den flows tries:Int} (h1:eD L) (h2:gE num den flows) (h3:0≤tries) (h4:tries≤12) (h5:Wk.length≤12) :
  zV Wk L num den flows tries (qh Wk L num den flows tries).1 (qh Wk L num den flows tries).2:=by
 unfold qh
 by_cases hw:∀ x∈L,¬ 0<x.weight
 ·rw [if_pos hw];exact Or.inr (Or.inr (Or.inl ⟨h1,h2,h3,h4,h5,hw,rfl,rfl⟩))
 ·rw [if_neg hw]
  have hw':∃ x∈L,0<x.weight:=by
   refine Classical.byContradiction fun h=>hw fun x hx h2=>h ⟨x,hx,h2⟩
  refine Or.inr (Or.inr (Or.inr ⟨h1,h2,h3,h4,h5,hw',?_⟩));rcases qQ (L:=L) (C:=bU L num den flows) Wk tries with ha|⟨m,ha,hm⟩
  ·rw [ha,if_neg (by omega)];have hb:=qO L (bU L num den flows) L.length;rcases zP hb with hb'|⟨m,hb',hm⟩
   ·rw [hb',if_neg (by omega)];exact Or.inr (Or.inr ⟨rfl,by rw [← hb'];exact hb,rfl,rfl⟩)
   ·rw [hb',if_pos (by omega)];exact Or.inr (Or.inl ⟨rfl,m,hm,by rw [← hb'];exact hb,by simp,rfl⟩)
  ·rw [ha,if_pos (by omega)];exact Or.inl ⟨m,hm,rfl,by simp,rfl⟩
def dp (X:Wd) (key:Nat) (but:Int):Int×Int:=qh (gR X.ring (AS key)) (dx X but) X.cf.num X.cf.den (CV X but) X.cf.tries
def dQ (T:List Sl) (f:Fl):List Sl:=T.set f.slot.toNat ⟨f.gen+1,false,0,0⟩
def g9 (X:Wd) (i:Nat) (kind why:Int):Wd×List Out:=
 ((bP (iJ X i (dQ X.tab (X.flows.getD i Fl.zero))) (X.flows.getD i Fl.zero).backend).1,
  ⟨kind,(X.flows.getD i Fl.zero).slot,(X.flows.getD i Fl.zero).gen,(X.flows.getD i Fl.zero).backend,0,0,why⟩ :: (bP (iJ X i (dQ X.tab (X.flows.getD i Fl.zero))) (X.flows.getD i Fl.zero).backend).2)
def fZ (X:Wd) (i:Nat) (b:Int):Wd:=
 { X with tok:=X.tok - X.cf.bd,tab:=X.tab.set (X.flows.getD i Fl.zero).slot.toNat ⟨(X.flows.getD i Fl.zero).gen,true,(X.flows.getD i Fl.zero).key,b⟩,flows:=X.flows.set i { X.flows.getD i Fl.zero with backend:=b,retries:=(X.flows.getD i Fl.zero).retries+1,due:=X.now+X.cf.connect },lists:=jH X.now X.lists (X.flows.getD i Fl.zero).slot X.cf.connect }
def eu (X:Wd) (i:Nat) (why:Int):Wd×List Out:=
 let f:=X.flows.getD i Fl.zero
 let X1:=bO X f.backend.toNat true
 if f.retries=X.cf.retries∨X.tok<X.cf.bd then g9 X1 i 6 why
 else if (dp X1 f.key.toNat f.slot).2≠0 then g9 X1 i 6 4
 else
  let b:=(dp X1 f.key.toNat f.slot).1
  let X2:=fZ X1 i b
  let s:=if f.backend=b then (X2,[]) else bP X2 f.backend
  (s.1,⟨5,f.slot,f.gen,b,0,0,0⟩ :: s.2)
theorem aK {α:Type} {L:List α} {i:Nat} (h:i<L.length) (d:α):L.getD i d=L[i]:=by simp [List.getD,h]
theorem km {α:Type} {L:List α} {x:α} (h:x∈L) (d:α):∃ i,i<L.length∧L.getD i d=x:=by
 obtain ⟨i,hi,rfl⟩:=List.mem_iff_getElem.1 h;exact ⟨i,hi,aK hi d⟩
theorem bZ {L:List Lf} {R:List Rq} (h:bF L R):L.Pairwise fun a b=>a.backend<b.backend:=by
 have key:∀ j i,i<j→j<L.length→(L.getD i Lf.zero).backend<(L.getD j Lf.zero).backend:=by
  intro j
  induction j with
  | zero=>intro i hi;omega
  | succ j ih=>
   intro i hi hj;have h1:=(h.2.2.1 (j+1) hj).2;simp only [mx,Nat.add_sub_cancel,if_neg (Nat.succ_ne_zero j)] at h1;rcases (show i<j∨i=j by omega) with h2|rfl
   ·exact Int.lt_trans (ih i h2 (by omega)) h1
   ·exact h1
 refine List.pairwise_iff_getElem.2 fun i j hi hj hij=>?_;have:=key j i hij hj
 rwa [aK hi,aK hj] at this
theorem dz {L:List Lf} {R:List Rq} (h:bF L R) {x:Lf} (hx:x∈L):ex x:=by
 obtain ⟨i,hi,rfl⟩:=km hx Lf.zero;exact (h.2.2.1 i hi).1
theorem dj {L:List Lf} {b:Int} {x:Lf} (h:cW L b=some x):x∈L∧x.backend=b:=
 ⟨List.mem_of_find?_eq_some h,by have:=List.find?_some h;simpa [cq] using this⟩
theorem gI {L:List Lf} (hs:L.Pairwise fun a b=>a.backend<b.backend) {x:Lf} (hx:x∈L):cW L x.backend=some x:=by
 induction L with
 | nil=>simp at hx
 | cons a L ih=>
  rw [List.pairwise_cons] at hs;unfold cW;by_cases ha:a.backend=x.backend
  ·rw [List.find?_cons_of_pos (by simp [cq,ha])];rcases List.mem_cons.1 hx with rfl|hx
   ·rfl
   ·exact absurd (hs.1 x hx) (by omega)
  ·rw [List.find?_cons_of_neg (by simp [cq,ha])];rcases List.mem_cons.1 hx with rfl|hx
   ·exact absurd rfl ha
   ·exact ih hs.2 hx
theorem pD {L:List Lf} (hs:L.Pairwise fun a b=>a.backend<b.backend) {x:Lf} (hx:x∈L):gp L x.backend=x.state:=by
 unfold gp;rw [gI hs hx]
 rfl
theorem mf {L:List Lf} {b:Int} {s:Int} (h:gp L b=s) (h0:s≠0):∃ x∈L,x.backend=b∧x.state=s:=by
 unfold gp at h
 cases hl:cW L b with
 | none=>rw [hl] at h;exact absurd h.symm h0
 | some x=>rw [hl] at h;exact ⟨x,(dj hl).1,(dj hl).2,h⟩
def dK (L:List Lf):List Nat:=(List.range 12).map fun b=>match cW L (b:Nat) with
 | some x=>if x.state=2 then x.weight.toNat else 0
 | none=>0
theorem cA (L:List Lf):(dK L).length=12:=by simp [dK]
theorem fc (L:List Lf) {b:Nat} (h:b<12):(dK L).getD b 0=match cW L (b:Nat) with
 | some x=>if x.state=2 then x.weight.toNat else 0
 | none=>0:=by
 rw [aK (by rw [cA];exact h)]
 simp [dK]
theorem zw {L:List Lf} {R:List Rq} (h:bF L R) (b:Nat):(dK L).getD b 0≤8:=by
 by_cases hb:b<12
 ·rw [fc L hb]
  cases hl:cW L (b:Nat) with
  | none=>simp
  | some x=>
   have:=(dz h (dj hl).1).2.2.2.1;simp only
   split<;>omega
 ·exact Q133
theorem FH (X Y:List Sp) (b:Nat):jX (X++Y) b=jX X b+jX Y b:=List.countP_append
theorem Au (c n b:Nat):jX (cV c n) b=if c=b then 4*n else 0:=by
 unfold jX;by_cases h:c=b
 ·subst h;rw [if_pos rfl,List.countP_eq_length.2 (fun s hs=>by rw [gK hs];simp),eG]
 ·rw [if_neg h,List.countP_eq_zero.2 (fun s hs=>by rw [gK hs];simp;omega)]
theorem uQ (ws:List Nat) (b:Nat):∀ k,jX (de ws k) b=if b<k then 4*ws.getD b 0 else 0
 | 0=>by simp [de,jX]
 | k+1=>by
  rw [dG,FH,uQ ws b k,Au];by_cases h:k=b
  ·subst h;simp
  ·rw [if_neg h];by_cases h2:b<k
   ·rw [if_pos h2,if_pos (by omega)]
    rfl
   ·rw [if_neg h2,if_neg (by omega)]
theorem uR (ws:List Nat) {b:Nat} (h:b<12):jX (bN ws) b=4*ws.getD b 0:=by
 have e:jX (bN ws) b=jX (de ws 12) b:=(eZ _).countP_eq _;rw [e,uQ,if_pos h]
theorem iz {ws:List Nat} (h:ws.length=12):ge (bN ws)=ws:=by
 refine List.ext_getElem (by simp [ge,h]) fun i h1 h2=>?_;have e:=kG (bN ws) (b:=i) (by omega);rw [aK h1,uR ws (by omega),aK h2] at e;rw [e];omega
theorem rM {ws:List Nat}:∀ {k:Nat} {s:Sp},s∈de ws k→∃ b,b<k∧s.backend=(b:Int)
 | 0,s,h=>by simp [de] at h
 | k+1,s,h=>by
  rw [dG] at h;rcases List.mem_append.1 h with h|h
  ·obtain ⟨b,hb,e⟩:=rM h;exact ⟨b,by omega,e⟩
  ·exact ⟨k,by omega,gK h⟩
theorem pN {ws:List Nat} (h:ws.length=12) (h8:∀ b,ws.getD b 0≤8):RgMay (bN ws):=by
 refine ⟨fun s hs=>?_,fun b hb=>?_,by rw [iz h]⟩
 ·obtain ⟨b,hb,e⟩:=rM ((eZ _).mem_iff.1 hs);omega
 ·rw [uR ws hb];have:=h8 b;omega
def mX (f:Fl):Tm:=⟨f.due,f.slot⟩
def em (now:Int) (F:List Fl):List Tm:=(F.filter fun f=>decide (now<f.due)).map mX
structure I8 (X:Wd) (f:Fl):Prop where
 s0:0≤f.slot
 s1:f.slot<X.tab.length
 sl:X.tab.getD f.slot.toNat Sl.zero=⟨f.gen,true,f.key,f.backend⟩
 r0:0≤f.retries
 r1:f.retries≤X.cf.retries
 st:gp X.lives f.backend=2∨gp X.lives f.backend=3
 d0:X.now≤f.due
 d1:f.due≤X.now+500
structure GwMay (X:Wd):Prop where
 cf:j4 X.cf
 n0:0≤X.now
 n1:X.now≤1099511626776
 tb:dM X.tab
 tl:(X.tab.length:Int)=X.cf.flows
 bk:bF X.lives X.reqs
 hl:X.health.length=12
 ht:∀ i,i<12→gb X.cf.ww X.cf.wf X.cf.wh (X.health.getD i Ht.zero).marks.length (X.health.getD i Ht.zero).out (X.health.getD i Ht.zero).until_ (X.health.getD i Ht.zero).times X.now 0
 ho:∀ i,i<12→(X.health.getD i Ht.zero).out=true→X.now<(X.health.getD i Ht.zero).until_
 t0:0≤X.tok
 t1:X.tok≤X.cf.bb*X.cf.bd
 rg:X.ring=bN (dK X.lives)
 wn:X.wnow=X.now
 wl:X.lists=bJ X.now (em X.now X.flows)
 so:X.flows.Pairwise fun a b=>a.slot<b.slot
 fl:∀ f∈X.flows,I8 X f
 us:∀ s,s<X.tab.length→(X.tab.getD s Sl.zero).used=true→∃ f∈X.flows,f.slot=s
 dr:∀ x∈X.lives,x.state=3→∃ f∈X.flows,f.backend=x.backend
 si:∀ x∈X.lives,x.since≤X.now
variable {X:Wd}
theorem GwMay.note (h:GwMay X):ul X:=⟨h.bk,h.hl,h.ht,by have:=h.cf.1.2.2;omega,by have:=h.cf.1.2.2;omega⟩
theorem GwMay.ring (h:GwMay X):RgMay X.ring:=by rw [h.rg];exact pN (cA _) (zw h.bk)
theorem GwMay.len (h:GwMay X):X.flows.length≤40:=by
 have hn:(X.flows.map fun f=>f.slot.toNat).Nodup:=by
  exact Q118
 have hs:∀ x∈X.flows.map (fun f=>f.slot.toNat),x<X.tab.length:=by
  intro x hx;obtain ⟨f,hf,rfl⟩:=II.1 hx;have h1:=(h.fl f hf).s0;have h2:=(h.fl f hf).s1;omega
 have:=List.Nodup.length_le_of_subset hn (l₂:=List.range X.tab.length) (fun x hx=>List.mem_range.2 (hs x hx));have h40:=h.tb.2.1;simp at this;omega
theorem GwMay.tms (h:GwMay X):(∀ t∈em X.now X.flows,dJ t X.now)∧(gJ (em X.now X.flows)).Nodup:=by
 constructor
 ·intro t ht;obtain ⟨f,hf,rfl⟩:=II.1 ht;obtain ⟨hf,hd⟩:=List.mem_filter.1 hf;have h1:=h.fl f hf;have h2:=h1.s0;have h3:=h1.s1;have h4:=h1.d1;have h5:=h.n1;have h6:=h.tb.2.1;simp at hd;unfold dJ mX;simp only;omega
 ·unfold gJ em;rw [List.map_map,List.nodup_iff_pairwise_ne,List.pairwise_map];refine (h.so.filter _).imp fun {a b} hab=>?_;simp [mX];omega
theorem GwMay.wh (h:GwMay X):WhMay X.now X.lists:=by
 rw [h.wl];exact (po h.n0 (by have:=h.n1;omega) h.tms.1 h.tms.2).1
theorem GwMay.whp (h:GwMay X):X.lists.flatten.Perm (em X.now X.flows):=by
 rw [h.wl];exact (po h.n0 (by have:=h.n1;omega) h.tms.1 h.tms.2).2
theorem na {T:List Sl} (h:dM T) {i:Nat} (hi:i<T.length):ds (T.getD i Sl.zero):=by rw [aK hi];exact h.2.2 _ (Iw hi)
theorem GwMay.num (h:GwMay X) {f:Fl} (hf:f∈X.flows):∃ s:Nat,f.slot=s∧s<X.tab.length∧X.tab.getD s Sl.zero=⟨f.gen,true,f.key,f.backend⟩∧0≤f.gen∧f.gen≤1048575∧0≤f.key∧f.key≤4294967295∧0≤f.backend∧f.backend≤11:=by
 have h1:=h.fl f hf;obtain ⟨s,hs⟩:=Iy h1.s0
 have hs':s<X.tab.length:=by have:=h1.s1;omega
 have h2:=h1.sl;rw [hs,Iu] at h2;have h3:=na h.tb hs';rw [h2] at h3;simp [ds] at h3;exact ⟨s,hs,hs',h2,h3⟩
theorem GwMay.get (h:GwMay X) {f:Fl} (hf:f∈X.flows):nL X.tab f.slot f.gen ⟨f.gen,true,f.key,f.backend⟩ 0:=by
 obtain ⟨s,hs,hs',h2,_⟩:=h.num hf;exact Or.inr (Or.inr ⟨h.tb,s,hs',hs,Or.inl ⟨by rw [h2],by rw [h2],h2.symm,rfl⟩⟩)
theorem GwMay.drop (h:GwMay X) {f:Fl} (hf:f∈X.flows):uw X.tab f.slot f.gen (dQ X.tab f) 0:=by
 obtain ⟨s,hs,hs',h2,h3,h4,_⟩:=h.num hf;exact ⟨_,0,h.get hf,Or.inr ⟨rfl,s,hs',hs,⟨h3,h4⟩,by unfold dQ;rw [hs,Iu],rfl⟩⟩
theorem GwMay.move (h:GwMay X) {f:Fl} (hf:f∈X.flows) {b:Int} (h0:0≤b) (h1:b≤11):um X.tab f.slot f.gen b (X.tab.set f.slot.toNat ⟨f.gen,true,f.key,b⟩) 0:=by
 obtain ⟨s,hs,hs',h2,h3,h4,_⟩:=h.num hf;exact ⟨_,0,h.get hf,Or.inr (Or.inr ⟨rfl,h0,h1,s,hs',hs,rfl,by rw [hs,Iu],rfl⟩)⟩
theorem oQ {T:List Sl} (h:dM T) (i:Nat) {s:Sl} (hs:ds s):dM (T.set i s):=by
 refine ⟨by simpa using h.1,by simpa using h.2.1,fun x hx=>?_⟩;rcases List.mem_or_eq_of_mem_set hx with hx|rfl
 ·exact h.2.2 x hx
 ·exact hs
theorem GwMay.tabd (h:GwMay X) {f:Fl} (hf:f∈X.flows):dM (dQ X.tab f):=by
 obtain ⟨s,hs,hs',h2,h3,h4,_⟩:=h.num hf;exact oQ h.tb _ (by simp [ds];omega)
theorem uD (L:List Sp):(ej L).Nodup:=by
 refine pI (p:=fun L=>(ej L).Nodup) ?_ ?_ L
 ·simp [ej]
 ·intro L s ih;rw [iu];unfold jY;by_cases h:s.backend∈ej L
  ·rw [if_pos h];exact ih
  ·rw [if_neg h,List.nodup_append];refine ⟨ih,by simp,?_⟩;intro a ha b hb;simp at hb;rintro rfl;exact h (hb ▸ ha)
theorem xA (X:List Sp) (a b:Int):b∈gR X a↔∃ s∈X,s.backend=b:=by
 unfold gR;rw [Ai];constructor
 ·rintro ⟨s,hs,e⟩;rcases List.mem_append.1 hs with hs|hs
  ·exact ⟨s,(List.mem_filter.1 hs).1,e⟩
  ·exact ⟨s,(List.mem_filter.1 hs).1,e⟩
 ·rintro ⟨s,hs,e⟩;by_cases h:a≤s.hash
  ·exact ⟨s,List.mem_append.2 (Or.inl (List.mem_filter.2 ⟨hs,by simpa using h⟩)),e⟩
  ·exact ⟨s,List.mem_append.2 (Or.inr (List.mem_filter.2 ⟨hs,by simp;omega⟩)),e⟩
theorem walk_len12 {X:List Sp} (h:RgMay X) (a:Int):(gR X a).length≤12:=by
 have hb:∀ b∈gR X a,0≤b∧b≤11:=by
  intro b hb;obtain ⟨s,hs,rfl⟩:=(xA X a b).1 hb;exact h.1 s hs
 have hn:((gR X a).map Int.toNat).Nodup:=by
  rw [List.nodup_iff_pairwise_ne,List.pairwise_map];refine (List.nodup_iff_pairwise_ne.1 (uD _)).imp_of_mem fun {x y} hx hy hxy=>?_;have h1:=hb x hx;have h2:=hb y hy;omega
 have:=List.Nodup.length_le_of_subset hn (l₂:=List.range 12) (fun x hx=>by
  obtain ⟨y,hy,rfl⟩:=II.1 hx;have:=hb y hy
  exact List.mem_range.2 (by omega))
 simpa using this
theorem iU {T:List Sl} {b:Int} {h:Hd}:∀ {n:Nat},h∈iO T b n↔∃ k:Nat,k<n∧(T.getD k Sl.zero).used=true∧(T.getD k Sl.zero).backend=b∧h=⟨k,(T.getD k Sl.zero).gen⟩
 | 0=>by simp [iO]
 | n+1=>by
  simp only [iO,List.mem_append,iU (n:=n)];constructor
  ·rintro (⟨k,h1,h2⟩|h1)
   ·exact ⟨k,by omega,h2⟩
   ·split at h1
    ·rename_i h2
     simp at h1;exact ⟨n,by omega,h2.1,h2.2,h1⟩
    ·simp at h1
  ·rintro ⟨k,h1,h2,h3,h4⟩;rcases (show k<n∨k=n by omega) with hk|rfl
   ·exact Or.inl ⟨k,hk,h2,h3,h4⟩
   ·right;rw [if_pos ⟨h2,h3⟩];simpa using h4
theorem CE {w d m:Int} (h1:1≤w) (h2:0≤d) (h3:0≤m):1≤eo w d m∧eo w d m≤w:=by
 unfold eo;by_cases h:m≤d
 ·rw [if_pos h];omega
 ·rw [if_neg h];have hm:0<m:=by omega
  have h4:w*d / m≤w:=by
   have:w*d≤w*m:=Int.mul_le_mul_of_nonneg_left (by omega) (by omega);have:=Int.ediv_le_ediv hm this
   rwa [Int.mul_ediv_cancel _ (by omega)] at this
  omega
theorem GI (T:List Sl) {b:Nat} (h:b<12) (n:Nat):(gC T n).getD b 0=(iO T b n).length:=by
 simp only [List.getD,kv T n b h,IJ]
variable {X:Wd}
theorem GwMay.load (h:GwMay X) {but:Int} (hb:but<X.tab.length):uo X but:=by
 have h1:=h.cf.1.1;exact ⟨h.bk,h.hl,h.tb,by omega,by omega,by have:=h.n1;omega,fun i hi=>h.si _ (by rw [aK hi];exact Iw hi),hb⟩
def om (X:Wd) (but:Int):Prop:=but=-1∨∃ s:Nat,but=s∧s<X.tab.length∧(X.tab.getD s Sl.zero).used=true∧X.flows≠[]
theorem Gh (h:GwMay X) {but:Int} (hb:om X but) {b:Int} (b0:0≤b) (b1:b≤11):0≤ny X but b∧ny X but b≤40:=by
 obtain ⟨n,rfl⟩:=Iy b0;unfold ny;rw [Iu,GI _ (by omega)];have h40:=h.tb.2.1;have hl:=kK X.tab n X.tab.length;by_cases ho:vq X but n=true
 ·rw [if_pos ho]
  have:0<(iO X.tab n X.tab.length).length:=by
   rcases hb with rfl|⟨s,rfl,hs,hu,_⟩
   ·simp [vq] at ho
   ·simp [vq] at ho;exact List.length_pos_of_mem (a:=⟨s,(X.tab.getD s Sl.zero).gen⟩) (iU.2 ⟨s,hs,hu,by simpa [List.getD] using ho,rfl⟩)
  omega
 ·rw [if_neg ho];omega
theorem Gg (h:GwMay X) {x:Lf} (hx:x∈X.lives):0≤jn X x∧jn X x≤x.weight:=by
 have h1:=dz h.bk hx;have h2:=h.si x hx;have h3:=h.cf.1.1;unfold jn
 split
 ·have:=h1.2.2.1;omega
 ·have:=CE (w:=x.weight) (d:=X.now - x.since) (m:=X.cf.warm) h1.2.2.1 (by omega) (by omega);omega
theorem yg (h:GwMay X) (but:Int):(dx X but).Pairwise fun a b=>a.backend<b.backend:=by
 unfold dx;rw [List.pairwise_map];exact (bZ h.bk).filter _
theorem zA {but:Int} {y:Ld}:y∈dx X but↔∃ x∈X.lives,x.state=2∧rC X but x=y:=by
 unfold dx;rw [II];constructor
 ·rintro ⟨x,hx,e⟩;obtain ⟨h1,h2⟩:=List.mem_filter.1 hx;exact ⟨x,h1,by simpa using h2,e⟩
 ·rintro ⟨x,h1,h2,e⟩;exact ⟨x,List.mem_filter.2 ⟨h1,by simpa using h2⟩,e⟩
theorem zB (h:GwMay X) {but:Int} (hb:om X but):eD (dx X but):=by
 have hs:=yg h but;refine ⟨?_,fun i hi=>?_⟩
 ·unfold dx;rw [Iq];exact IG (List.length_filter_le _ _) h.bk.1
 ·have hm:(dx X but).getD i Ld.zero∈dx X but:=by rw [aK hi];exact Iw hi
  obtain ⟨x,hx,_,e⟩:=zA.1 hm;have h1:=dz h.bk hx;have hf:=Gh h hb h1.1 h1.2.1;have hw:=Gg h hx;have h8:=h1.2.2.2.1
  have eb:((dx X but).getD i Ld.zero).backend=x.backend:=by rw [← e];rfl
  have ew:((dx X but).getD i Ld.zero).weight=jn X x:=by rw [← e];rfl
  have ef:((dx X but).getD i Ld.zero).flows=ny X but x.backend:=by rw [← e];rfl
  refine ⟨?_,by rw [eb];exact h1.2.1,by rw [ew];omega,by rw [ew];omega,by rw [ef];exact hf.1,by rw [ef];exact hf.2⟩;unfold jo;by_cases hi0:i=0
  ·rw [if_pos hi0,eb];have:=h1.1;omega
  ·rw [if_neg hi0,aK (show i - 1<(dx X but).length by omega),aK hi];exact List.pairwise_iff_getElem.1 hs (i - 1) i (by omega) hi (by omega)
theorem GwMay.fac (h:GwMay X) {but:Int} (hb:om X but):gE X.cf.num X.cf.den (CV X but):=by
 have h1:=h.cf.1.2.1;have h2:=h.len
 have h3:0≤CV X but∧CV X but≤40:=by
  unfold CV;rcases hb with rfl|⟨s,rfl,_,_,hf⟩
  ·rw [if_neg (by omega)];omega
  ·have:=List.length_pos_iff.2 hf;rw [if_pos (by omega)];omega
 exact ⟨by omega,by omega,by omega,h3.1,h3.2⟩
theorem GwMay.pick (h:GwMay X) (key:Nat) {but:Int} (hb:om X but):uq X key but (dp X key but).1 (dp X key but).2:=by
 have h1:=h.cf.1.2.2;exact AF (zB h hb) (h.fac hb) (by omega) (by omega) (walk_len12 h.ring _)
theorem GwMay.butF (h:GwMay X) {f:Fl} (hf:f∈X.flows):om X f.slot:=by
 obtain ⟨s,hs,hs',h2,_⟩:=h.num hf;exact Or.inr ⟨s,hs,hs',by rw [h2],fun e=>by rw [e] at hf;simp at hf⟩
theorem tH (h:GwMay X) {key:Nat} {but:Int} (hb:om X but) (h0:(dp X key but).2=0):∃ x∈X.lives,x.state=2∧x.backend=(dp X key but).1:=by
 have hp:=h.pick key hb;rw [h0] at hp
 have key:∀ m,m<(dx X but).length→∃ x∈X.lives,x.state=2∧x.backend=((dx X but).getD m Ld.zero).backend:=by
  intro m hm
  have hm':(dx X but).getD m Ld.zero∈dx X but:=by rw [aK hm];exact Iw hm
  obtain ⟨x,hx,hs,e⟩:=zA.1 hm';exact ⟨x,hx,hs,by rw [← e];rfl⟩
 rcases hp with ⟨_,_,h2,_⟩|⟨_,_,_,_,h2⟩|⟨_,_,_,_,_,_,_,h2⟩|⟨_,_,_,_,_,_,⟨m,hm,_,e,_⟩|⟨_,m,hm,_,e,_⟩|⟨_,_,_,h2⟩⟩
 ·exact absurd rfl h2
 ·omega
 ·omega
 ·rw [e];exact key m hm
 ·rw [e];exact key m hm
 ·omega
theorem zp (h:GwMay X) {key:Nat} {but:Int} (hb:om X but) (h0:(dp X key but).2=0):0≤(dp X key but).1∧(dp X key but).1≤11:=by
 obtain ⟨x,hx,_,e⟩:=tH h hb h0;have:=dz h.bk hx;rw [← e];exact ⟨this.1,this.2.1⟩
theorem cJ {α:Type} {L:List α} {i j:Nat} {x d:α} (hi:i<L.length):(L.set i x).getD j d=if i=j then x else L.getD j d:=by
 simp only [List.getD,List.getElem?_set,if_pos hi];by_cases h:i=j<;>simp [h]
theorem yd (M:List Bool) (f:Bool) {a:Int} (h:0≤a):((gx M f a).length:Int)≤a:=by
 unfold gx;rw [List.length_drop,It];simp;omega
theorem DQ {c t:Int} (h:1≤c):1≤mB c t∧mB c t≤500:=by
 unfold mB
 have h1:(1:Int)≤2 ^ t.toNat:=by
  have:(0:Int)<2 ^ t.toNat:=Int.pow_pos (by omega);omega
 have h2:1*1≤c*2 ^ t.toNat:=Int.mul_le_mul h h1 (by omega) (by omega);omega
theorem D7 {X:Wd} (h:GwMay X) {b:Nat} (hb:b<12) (failed may:Bool) :
  gb X.cf.ww X.cf.wf X.cf.wh (iV X.cf (X.health.getD b Ht.zero) failed X.now may).marks.length (iV X.cf (X.health.getD b Ht.zero) failed X.now may).out (iV X.cf (X.health.getD b Ht.zero) failed X.now may).until_ (iV X.cf (X.health.getD b Ht.zero) failed X.now may).times X.now 0∧
  ((iV X.cf (X.health.getD b Ht.zero) failed X.now may).out=true→X.now<(iV X.cf (X.health.getD b Ht.zero) failed X.now may).until_):=by
 obtain ⟨h1,h2,h3,h4⟩:=fv (h.ht b hb)
 have ho:=h.ho b hb
 have hn:=h.n1
 have hw:=h1.2.2.2.2.1
 have hh:=DQ (t:=(X.health.getD b Ht.zero).times) hw
 have ha:0≤X.cf.ww:=by have:=h1.1;omega
 have hl:=yd (X.health.getD b Ht.zero).marks failed ha
 obtain ⟨a1,a2,a3,a4,a5,a6⟩:=h4
 unfold iV
 by_cases hc:(X.health.getD b Ht.zero).out=false∧may=true∧X.cf.wf≤iW (gx (X.health.getD b Ht.zero).marks failed X.cf.ww)
 ·rw [if_pos hc];refine ⟨Or.inr (Or.inr (Or.inr ⟨h1,h2,h3,⟨by simpa using ha,?_,?_,?_,?_,by simp⟩,rfl⟩)),fun _=>by simp only;omega⟩<;>simp only<;>omega
 ·rw [if_neg hc];exact ⟨Or.inr (Or.inr (Or.inr ⟨h1,h2,h3,⟨hl,a2,a3,a4,a5,a6⟩,rfl⟩)),ho⟩
theorem GwMay.noted {X:Wd} (h:GwMay X) {b:Nat} (hb:b<12) (failed:Bool):GwMay (bO X b failed):=by
 have hb':b<X.health.length:=by rw [h.hl];exact hb
 have hn:=D7 h hb failed (BU X && gp X.lives b == 2);refine { cf:=h.cf,n0:=h.n0,n1:=h.n1,tb:=h.tb,tl:=h.tl,bk:=h.bk,hl:=?_,ht:=?_,ho:=?_,t0:=h.t0,t1:=h.t1,rg:=h.rg,wn:=h.wn,wl:=h.wl,so:=h.so,fl:=fun f hf=>?_,us:=h.us,dr:=h.dr,si:=h.si }
 ·simp only [bO,Ix];exact h.hl
 ·intro i hi;simp only [bO];rw [cJ hb'];by_cases e:b=i
  ·rw [if_pos e];exact hn.1
  ·rw [if_neg e];exact h.ht i hi
 ·intro i hi;simp only [bO];rw [cJ hb'];by_cases e:b=i
  ·rw [if_pos e];exact hn.2
  ·rw [if_neg e];exact h.ho i hi
 ·have:=h.fl f hf;exact ⟨this.s0,this.s1,this.sl,this.r0,this.r1,this.st,this.d0,this.d1⟩
structure GwBut (X:Wd) (b:Int):Prop where
 cf:j4 X.cf
 n0:0≤X.now
 n1:X.now≤1099511626776
 tb:dM X.tab
 tl:(X.tab.length:Int)=X.cf.flows
 bk:bF X.lives X.reqs
 hl:X.health.length=12
 ht:∀ i,i<12→gb X.cf.ww X.cf.wf X.cf.wh (X.health.getD i Ht.zero).marks.length (X.health.getD i Ht.zero).out (X.health.getD i Ht.zero).until_ (X.health.getD i Ht.zero).times X.now 0
 ho:∀ i,i<12→(X.health.getD i Ht.zero).out=true→X.now<(X.health.getD i Ht.zero).until_
 t0:0≤X.tok
 t1:X.tok≤X.cf.bb*X.cf.bd
 rg:X.ring=bN (dK X.lives)
 wn:X.wnow=X.now
 wl:X.lists=bJ X.now (em X.now X.flows)
 so:X.flows.Pairwise fun a b=>a.slot<b.slot
 fl:∀ f∈X.flows,I8 X f
 us:∀ s,s<X.tab.length→(X.tab.getD s Sl.zero).used=true→∃ f∈X.flows,f.slot=s
 dr:∀ x∈X.lives,x.state=3→x.backend≠b→∃ f∈X.flows,f.backend=x.backend
 si:∀ x∈X.lives,x.since≤X.now
theorem GwBut.all {X:Wd} {b:Int} (h:GwBut X b) (hd:∀ x∈X.lives,x.state=3→x.backend=b→∃ f∈X.flows,f.backend=x.backend):GwMay X:=by
 have hdr:∀ x∈X.lives,x.state=3→∃ f∈X.flows,f.backend=x.backend:=fun x hx h3=>by
  by_cases e:x.backend=b
  ·exact hd x hx h3 e
  ·exact h.dr x hx h3 e
 exact { cf:=h.cf,n0:=h.n0,n1:=h.n1,tb:=h.tb,tl:=h.tl,bk:=h.bk,hl:=h.hl,ht:=h.ht,ho:=h.ho,t0:=h.t0,t1:=h.t1,rg:=h.rg,wn:=h.wn,wl:=h.wl,so:=h.so,fl:=h.fl,us:=h.us,si:=h.si,dr:=hdr }
theorem ft (a:Lf) (L:List Lf) (b:Int):cW (a :: L) b=if a.backend=b then some a else cW L b:=by
 unfold cW;by_cases h:a.backend=b
 ·rw [if_pos h,List.find?_cons_of_pos (by simp [cq,h])]
 ·rw [if_neg h,List.find?_cons_of_neg (by simp [cq,h])]
theorem ij {y:Lf} {b:Int}:∀ {L:List Lf} {i:Nat},L.Pairwise (fun a b=>a.backend<b.backend)→i<L.length→y.backend=(L.getD i Lf.zero).backend→cW (L.set i y) b=if y.backend=b then some y else cW L b
 | [],i,_,hi,_=>by simp at hi
 | a :: L,0,_,_,hy=>by
  have hy':y.backend=a.backend:=hy;rw [List.set_cons_zero,ft,ft];by_cases h:y.backend=b
  ·rw [if_pos h,if_pos h]
  ·rw [if_neg h,if_neg h,if_neg (by omega)]
 | a :: L,i+1,hs,hi,hy=>by
  rw [List.pairwise_cons] at hs;have hi':i<L.length:=by simpa using hi
  have hy':y.backend=(L.getD i Lf.zero).backend:=by simpa using hy
  have hlt:a.backend<y.backend:=by rw [hy',aK hi'];exact hs.1 _ (Iw hi')
  rw [List.set_cons_succ,ft,ft,ij hs.2 hi' hy'];by_cases h:a.backend=b
  ·rw [if_pos h,if_neg (by omega),if_pos h]
  ·rw [if_neg h,if_neg h]
theorem nE {L:List Lf} {R:List Rq} (h:bF L R) {i:Nat} (hi:i<L.length) {y:Lf} (hy:ex y) (hb:y.backend=(L.getD i Lf.zero).backend):bF (L.set i y) R:=by
 obtain ⟨h1,h2,h3,h4,h5⟩:=h
 have hbk:∀ j,((L.set i y).getD j Lf.zero).backend=(L.getD j Lf.zero).backend:=by
  intro j;rw [cJ hi];by_cases e:i=j
  ·subst e;rw [if_pos rfl,hb]
  ·rw [if_neg e]
 refine ⟨by simpa using h1,h2,fun j hj=>?_,h4,h5⟩;have hj':j<L.length:=by simpa using hj
 obtain ⟨a1,a2⟩:=h3 j hj';refine ⟨?_,?_⟩
 ·rw [cJ hi];by_cases e:i=j
  ·rw [if_pos e];exact hy
  ·rw [if_neg e];exact a1
 ·rw [hbk];unfold mx at a2 ⊢;by_cases e:j=0
  ·rw [if_pos e] at a2 ⊢;exact a2
  ·rw [if_neg e] at a2 ⊢;rw [hbk];exact a2
theorem vC {L:List Lf} (hs:L.Pairwise fun a b=>a.backend<b.backend) {i:Nat} (hi:i<L.length) {y:Lf} (hb:y.backend=(L.getD i Lf.zero).backend) (h1:y.state≠2) (h2:(L.getD i Lf.zero).state≠2):dK (L.set i y)=dK L:=by
 unfold dK;refine List.map_congr_left fun b _=>?_;rw [ij hs hi hb];by_cases e:y.backend=(b:Int)
 ·have:cW L (b:Nat)=some (L.getD i Lf.zero):=by
   rw [← e,hb];exact gI hs (by rw [aK hi];exact Iw hi)
  rw [if_pos e,this];simp only;rw [if_neg h1,if_neg h2]
 ·rw [if_neg e]
theorem no_of {X:Wd} {b c:Int} (h:GwBut X c) (hn:iO X.tab b X.tab.length=[]) {f:Fl} (hf:f∈X.flows):f.backend≠b:=by
 intro e;have h1:=h.fl f hf;have h0:=h1.s0;have h2:=h1.s1;have:(⟨f.slot.toNat,(X.tab.getD f.slot.toNat Sl.zero).gen⟩:Hd)∈iO X.tab b X.tab.length:=iU.2 ⟨f.slot.toNat,by omega,by rw [h1.sl],by rw [h1.sl];exact e,rfl⟩;rw [hn] at this;simp at this
theorem Fx {X:Wd} {b c:Int} (h:GwBut X c) (hn:iO X.tab b X.tab.length≠[]):∃ f∈X.flows,f.backend=b:=by
 obtain ⟨x,hx⟩:=List.exists_mem_of_ne_nil _ hn;obtain ⟨k,hk,hu,hb,_⟩:=iU.1 hx;obtain ⟨f,hf,hs⟩:=h.us k hk hu;refine ⟨f,hf,?_⟩;exact Q170
theorem lH {X:Wd} {b:Int} (h:GwBut X b):GwMay (bP X b).1:=by
 have hs:=bZ h.bk;unfold bP
 cases hl:cW X.lives b with
 | none=>
  refine h.all fun x hx _ e=>?_;have:=gI hs hx;rw [e,hl] at this
  cases this
 | some x=>
  obtain ⟨hx,hxb⟩:=dj hl
  have same:∀ y∈X.lives,y.backend=b→y=x:=by
   intro y hy e;have:=gI hs hy;rw [e,hl] at this;exact (Option.some.inj this).symm
  simp only;by_cases hc:x.state=3∧iO X.tab b X.tab.length=[]
  ·rw [if_pos hc];obtain ⟨i,hi,hix⟩:=km hx Lf.zero
   have hfin:ju X.lives b=X.lives.set i x.done:=by
    rcases b8 (cq b) X.lives Lf.zero with ⟨h1,_⟩|⟨j,hj,h1,_⟩
    ·rw [(fD X.lives b).1 h1] at hl
     cases hl
    ·have h2:=(fD X.lives b).2 j h1 hj;rw [hl] at h2;have h2':x=X.lives.getD j Lf.zero:=Option.some.inj h2
     have hij:i=j:=by
      rw [List.pairwise_iff_getElem] at hs;rw [aK hi] at hix;rw [aK hj] at h2';rcases Nat.lt_trichotomy i j with g|g|g
      ·have:=hs i j hi hj g;rw [hix,← h2'] at this;omega
      ·exact g
      ·have:=hs j i hj hi g;rw [hix,← h2'] at this;omega
     rw [wj h1,← hij,hix]
   have hyb:x.done.backend=(X.lives.getD i Lf.zero).backend:=by rw [hix];rfl
   have hym:ex x.done:=by
    have:=dz h.bk hx;obtain ⟨a1,a2,a3,a4,a5,a6,a7,a8,a9,a10,_⟩:=this;exact ⟨a1,a2,a3,a4,a5,a6,a7,a8,a9,a10,Or.inr (Or.inr (Or.inr rfl))⟩
   have hbk:=nE h.bk hi hym hyb;have hs':=bZ hbk;have hlw:=vC hs hi hyb (y:=x.done) (by decide:(4:Int)≠2) (by rw [hix,hc.1];decide);refine { cf:=h.cf,n0:=h.n0,n1:=h.n1,tb:=h.tb,tl:=h.tl,bk:=?_,hl:=h.hl,ht:=h.ht,ho:=h.ho,t0:=h.t0,t1:=h.t1,rg:=?_,wn:=h.wn,wl:=h.wl,so:=h.so,fl:=fun f hf=>?_,us:=h.us,dr:=?_,si:=?_ }
   ·simp only;rw [hfin];exact hbk
   ·simp only;rw [hfin,hlw];exact h.rg
   ·have h1:=h.fl f hf;have hne:=no_of h hc.2 hf;refine ⟨h1.s0,h1.s1,h1.sl,h1.r0,h1.r1,?_,h1.d0,h1.d1⟩
    have e:gp (ju X.lives b) f.backend=gp X.lives f.backend:=by
     unfold gp;rw [hfin,ij hs hi hyb,if_neg (by rw [hyb,hix,hxb];exact fun e=>hne e.symm)]
    simp only;rw [e];exact h1.st
   ·intro y hy h3;simp only at hy;rw [hfin] at hy;rcases List.mem_or_eq_of_mem_set hy with hy'|rfl
    ·refine h.dr y hy' h3 fun e=>?_;have:=same y hy' e;have h4:=gI hs' hy;rw [ij hs hi hyb,if_pos (by rw [hyb,hix,this])] at h4;have h5:=Option.some.inj h4;rw [← h5] at h3;exact absurd h3 (by decide:(4:Int)≠3)
    ·exact absurd h3 (by decide:(4:Int)≠3)
   ·intro y hy;simp only at hy;rw [hfin] at hy;rcases List.mem_or_eq_of_mem_set hy with hy'|rfl
    ·exact h.si y hy'
    ·exact h.si x hx
  ·rw [if_neg hc];refine h.all fun y hy h3 e=>?_;obtain rfl:=same y hy e;rw [e];exact Fx h fun g=>hc ⟨h3,g⟩
theorem wR {X:Wd} (h:GwMay X) {L':List Lf} {R':List Rq} (b:Int) (hb:bF L' R') (hst:∀ f∈X.flows,gp L' f.backend=2∨gp L' f.backend=3) (hdr:∀ x∈L',x.state=3→x.backend≠b→∃ f∈X.flows,f.backend=x.backend) (hsi:∀ x∈L',x.since≤X.now) :
  GwBut { X with lives:=L',reqs:=R',ring:=bN (dK L') } b:=
 { cf:=h.cf,n0:=h.n0,n1:=h.n1,tb:=h.tb,tl:=h.tl,bk:=hb,hl:=h.hl,ht:=h.ht,ho:=h.ho,t0:=h.t0,t1:=h.t1,rg:=rfl,wn:=h.wn,wl:=h.wl,so:=h.so,us:=h.us,dr:=hdr,si:=hsi,fl:=fun f hf=>by
      have h1:=h.fl f hf
      exact ⟨h1.s0,h1.s1,h1.sl,h1.r0,h1.r1,hst f hf,h1.d0,h1.d1⟩ }
theorem nD {X:Wd} (h:GwMay X) {L':List Lf} {R':List Rq} (hb:bF L' R') (hl:dK L'=dK X.lives) (hst:∀ f∈X.flows,gp L' f.backend=2∨gp L' f.backend=3) (hdr:∀ x∈L',x.state=3→∃ f∈X.flows,f.backend=x.backend) (hsi:∀ x∈L',x.since≤X.now) :
  GwMay { X with lives:=L',reqs:=R' }:=by
 have h1:=(wR h (-1) hb hst (fun x hx h3 _=>hdr x hx h3) hsi).all (fun x hx h3 _=>hdr x hx h3)
 have e:({ X with lives:=L',reqs:=R',ring:=bN (dK L') }:Wd)={ X with lives:=L',reqs:=R' }:=by rw [hl,← h.rg]
 rw [e] at h1
 exact h1
theorem Eo {L:List Lf} {R:List Rq} (h:bF L R) {q:Rq} (hq:fF q) (hn:aN (jW q.id) R=-1) (hl:R.length≠100):bF L (R++[q]):=by
 obtain ⟨h1,h2,h3,h4,h5⟩:=h;refine ⟨h1,by simp;omega,h3,fun x hx=>?_,?_⟩
 ·rcases List.mem_append.1 hx with hx|hx
  ·exact h4 x hx
  ·simp at hx;subst hx;exact hq
 ·unfold gM at h5 ⊢;rw [IH,List.nodup_append];refine ⟨h5,by simp,fun a ha c hc=>?_⟩;simp at hc;subst hc;rcases b8 (jW q.id) R Rq.zero with ⟨_,h6⟩|⟨i,hi,he,_⟩
  ·obtain ⟨x,hx,rfl⟩:=II.1 ha;have:=h6 x hx;simpa [jW] using this
  ·omega
theorem uK {L:List Lf} (hs:L.Pairwise fun a b=>a.backend<b.backend) {i:Nat} (hi:i<L.length) {y:Lf} (hb:y.backend=(L.getD i Lf.zero).backend) (b:Int):gp (L.set i y) b=if y.backend=b then y.state else gp L b:=by
 unfold gp;rw [ij hs hi hb];by_cases e:y.backend=b
 ·rw [if_pos e,if_pos e]
  rfl
 ·rw [if_neg e,if_neg e]
theorem ts {L:List Lf} (hs:L.Pairwise fun a b=>a.backend<b.backend) {i:Nat} (hi:i<L.length) {y x:Lf} (hb:y.backend=(L.getD i Lf.zero).backend) (hx:x∈L.set i y):x=y∨(x∈L∧x.backend≠y.backend):=by
 rcases List.mem_iff_getElem.1 hx with ⟨j,hj,rfl⟩;rw [List.getElem_set];by_cases e:i=j
 ·rw [if_pos e];exact Or.inl rfl
 ·rw [if_neg e];have hj':j<L.length:=by simpa using hj
  refine Or.inr ⟨Iw hj',?_⟩;rw [hb,aK hi];rw [List.pairwise_iff_getElem] at hs;rcases Nat.lt_trichotomy i j with g|g|g
  ·have:=hs i j hi hj' g;omega
  ·exact absurd g e
  ·have:=hs j i hj' hi g;omega
theorem vD {X:Wd} (h:GwMay X) {R':List Rq} (hR:bF X.lives R') {i:Nat} (hi:i<X.lives.length) {y:Lf} (hy:ex y) (hb:y.backend=(X.lives.getD i Lf.zero).backend)
  (h1:y.state=1∨y.state=4) (h2:(X.lives.getD i Lf.zero).state=1∨(X.lives.getD i Lf.zero).state=4) (hsi:y.since≤X.now):GwMay { X with lives:=X.lives.set i y,reqs:=R' }:=by
 have hs:=bZ h.bk
 have hm:X.lives.getD i Lf.zero∈X.lives:=by rw [aK hi];exact Iw hi
 refine nD h (nE hR hi hy hb) (vC hs hi hb (by omega) (by omega)) (fun f hf=>?_) (fun x hx h3=>?_) (fun x hx=>?_)
 ·have hst:=(h.fl f hf).st;rw [uK hs hi hb];by_cases e:y.backend=f.backend
  ·have h4:=pD hs hm;rw [← hb,e] at h4;omega
  ·rw [if_neg e];exact hst
 ·rcases ts hs hi hb hx with rfl|⟨hx,_⟩
  ·omega
  ·exact h.dr x hx h3
 ·exact Q171
theorem Dh {X:Wd} (h:GwMay X) {R':List Rq} (hR:bF X.lives R') {i:Nat} (hi:i<X.lives.length) {y:Lf} (hy:ex y) (hb:y.backend=(X.lives.getD i Lf.zero).backend) (h1:y.state=3) (hsi:y.since≤X.now) :
  GwBut { X with lives:=X.lives.set i y,reqs:=R',ring:=bN (dK (X.lives.set i y)) } y.backend:=by
 have hs:=bZ h.bk
 refine wR h _ (nE hR hi hy hb) (fun f hf=>?_) (fun x hx h3 hne=>?_) (fun x hx=>?_)
 ·have hst:=(h.fl f hf).st;rw [uK hs hi hb];by_cases e:y.backend=f.backend
  ·rw [if_pos e];exact Or.inr h1
  ·rw [if_neg e];exact hst
 ·rcases ts hs hi hb hx with rfl|⟨hx,_⟩
  ·exact absurd rfl hne
  ·exact h.dr x hx h3
 ·exact Q171
theorem Dg {X:Wd} (h:GwMay X) {i:Nat} (hi:i<X.lives.length) {y:Lf} (hb:y.backend=(X.lives.getD i Lf.zero).backend) (h1:y.state=3) (h2:(X.lives.getD i Lf.zero).state=2) :
  uk X.ring y.backend (bN (dK (X.lives.set i y))) 0:=by
 have hs:=bZ h.bk
 have hm:X.lives.getD i Lf.zero∈X.lives:=by rw [aK hi];exact Iw hi
 have hl:=dz h.bk hm
 obtain ⟨n,hn⟩:=Iy hl.1
 have hn12:n<12:=by have:=hl.2.1;omega
 have hlf:cW X.lives (n:Nat)=some (X.lives.getD i Lf.zero):=by
  have:=gI hs hm;rw [hn] at this;exact this
 refine Or.inr (Or.inr ⟨n,h.ring,by rw [hb,hn],hn12,Or.inr ⟨?_,?_,rfl⟩⟩)
 ·rw [h.rg,iz (cA _),fc _ hn12,hlf];simp only;rw [if_pos h2];have:=hl.2.2.1;omega
 ·rw [h.rg,iz (cA _)]
  congr 1
  refine List.ext_getElem (by simp [cA]) fun j h3 h4=>?_;have hj:j<12:=by simpa [cA] using h3
  rw [← aK h3 0,← aK h4 0,cJ (by rw [cA];exact hn12),fc _ hj,fc _ hj,ij hs hi hb];by_cases e:n=j
  ·subst e;rw [if_pos (by rw [hb,hn]),if_pos rfl];simp only;rw [if_neg (by omega)]
  ·rw [if_neg (by rw [hb,hn];intro g;exact e (by omega)),if_neg e]
theorem qs {L:List Lf} {k:Nat} {y:Lf} (hn:∀ x∈L,x.backend≠y.backend) (b:Int):cW (ea L k y) b=if y.backend=b then some y else cW L b:=by
 unfold ea cW;rw [List.find?_append];by_cases e:y.backend=b
 ·rw [if_pos e]
  have h1:(L.take k).find? (cq b)=none:=List.find?_eq_none.2 fun x hx=>by
   have:=hn x (List.mem_of_mem_take hx);simp [cq];omega
  rw [h1,List.find?_cons_of_pos (by simp [cq,e])]
  rfl
 ·rw [if_neg e,List.find?_cons_of_neg (by simp [cq,e]),← List.find?_append,IE]
theorem I1 {L:List Lf} {R:List Rq} (h1:∀ x∈L,ex x) (h2:L.Pairwise fun a b=>a.backend<b.backend) (h3:R.length≤100) (h4:∀ x∈R,fF x) (h5:(gM R).Nodup):bF L R:=by
 refine ⟨?_,h3,fun i hi=>?_,h4,h5⟩
 ·have hn:(L.map fun x=>x.backend.toNat).Nodup:=by
   rw [List.nodup_iff_pairwise_ne,List.pairwise_map];refine h2.imp_of_mem fun {a b} ha hb hab=>?_;have:=(h1 a ha).1;have:=(h1 b hb).1;omega
  have:=List.Nodup.length_le_of_subset hn (l₂:=List.range 12) (fun x hx=>by
   obtain ⟨y,hy,rfl⟩:=II.1 hx;have:=(h1 y hy).1;have:=(h1 y hy).2.1
   rw [List.mem_range];omega)
  simpa using this
 ·have hm:L.getD i Lf.zero∈L:=by rw [aK hi];exact Iw hi
  refine ⟨h1 _ hm,?_⟩;unfold mx;by_cases e:i=0
  ·rw [if_pos e];have:=(h1 _ hm).1;omega
  ·rw [if_neg e,aK hi,aK (by omega:i - 1<L.length)];exact List.pairwise_iff_getElem.1 h2 (i - 1) i (by omega) hi (by omega)
def rE (T:List Sl) (sl gn:Int):Int:=if sl<0∨(T.length:Int)≤sl then 8 else if (T.getD sl.toNat Sl.zero).used=true∧(T.getD sl.toNat Sl.zero).gen=gn then 0 else 10
theorem DX {T:List Sl} (h:dM T) (sl gn:Int):∃ o,nL T sl gn o (rE T sl gn):=by
 unfold rE;by_cases h1:sl<0∨(T.length:Int)≤sl
 ·rw [if_pos h1];exact ⟨Sl.zero,Or.inr (Or.inl ⟨h,by omega,rfl,rfl⟩)⟩
 ·rw [if_neg h1];obtain ⟨i,rfl⟩:=Iy (by omega:0≤sl);rw [Iu];by_cases h2:(T.getD i Sl.zero).used=true∧(T.getD i Sl.zero).gen=gn
  ·rw [if_pos h2];exact ⟨_,Or.inr (Or.inr ⟨h,i,by omega,rfl,Or.inl ⟨h2.1,h2.2,rfl,rfl⟩⟩)⟩
  ·rw [if_neg h2];refine ⟨Sl.zero,Or.inr (Or.inr ⟨h,i,by omega,rfl,Or.inr ⟨?_,rfl,rfl⟩⟩)⟩
   cases hu:(T.getD i Sl.zero).used with
   | false=>exact Or.inl rfl
   | true=>exact Or.inr ⟨rfl,fun e=>h2 ⟨hu,e⟩⟩
def eV (X:Wd) (sl:Int):Nat:=(aN (mG sl) X.flows).toNat
theorem tY {X:Wd} (h:GwMay X) {sl gn:Int} (hc:rE X.tab sl gn=0):aN (mG sl) X.flows=(eV X sl:Int)∧eV X sl<X.flows.length∧(X.flows.getD (eV X sl) Fl.zero).slot=sl∧(X.flows.getD (eV X sl) Fl.zero).gen=gn:=by
 unfold rE at hc;by_cases h1:sl<0∨(X.tab.length:Int)≤sl
 ·rw [if_pos h1] at hc;omega
 ·rw [if_neg h1] at hc;by_cases h2:(X.tab.getD sl.toNat Sl.zero).used=true∧(X.tab.getD sl.toNat Sl.zero).gen=gn
  ·obtain ⟨f,hf,hs⟩:=h.us sl.toNat (by omega) h2.1;have hs':f.slot=sl:=by omega
   rcases b8 (mG sl) X.flows Fl.zero with ⟨_,hn⟩|⟨i,hi,he,hp,_⟩
   ·have:=hn f hf;simp [mG,hs'] at this
   ·have ha:eV X sl=i:=by unfold eV;rw [he];simp
    rw [ha];have hsl:(X.flows.getD i Fl.zero).slot=sl:=by simpa [mG] using hp
    have hm:X.flows.getD i Fl.zero∈X.flows:=by rw [aK hi];exact Iw hi
    have h3:=(h.fl _ hm).sl;rw [hsl] at h3;exact ⟨he,hi,hsl,by rw [← h2.2,h3]⟩
  ·rw [if_neg h2] at hc;omega
def gZ (X:Wd) (i:Nat):Wd:={ X with flows:=X.flows.set i { X.flows.getD i Fl.zero with serving:=true } }
def kt (X:Wd) (i:Nat):Wd:={ X with flows:=X.flows.set i { X.flows.getD i Fl.zero with due:=X.now+X.cf.idle },lists:=jH X.now X.lists (X.flows.getD i Fl.zero).slot X.cf.idle }
def ez (X:Wd) (e:Ev):Wd×List Out:=
 if rE X.tab e.slot e.gen≠0 then (X,[⟨10,0,0,0,0,rE X.tab e.slot e.gen,0⟩])
 else if e.kind=3 then g9 X (eV X e.slot) 7 0
 else if e.kind=2 then (if (X.flows.getD (eV X e.slot) Fl.zero).serving=true then kt X (eV X e.slot) else X,[⟨3,e.slot,e.gen,(X.flows.getD (eV X e.slot) Fl.zero).backend,0,0,0⟩])
 else if (X.flows.getD (eV X e.slot) Fl.zero).serving=true then (X,[⟨10,0,0,0,0,7,0⟩])
 else if e.good=true then (kt (bO (gZ X (eV X e.slot)) (X.flows.getD (eV X e.slot) Fl.zero).backend.toNat false) (eV X e.slot),[⟨4,e.slot,e.gen,(X.flows.getD (eV X e.slot) Fl.zero).backend,0,0,0⟩])
 else eu X (eV X e.slot) 3
end
end Go.Proofs.YtocbhafgjepnjaaGreat
