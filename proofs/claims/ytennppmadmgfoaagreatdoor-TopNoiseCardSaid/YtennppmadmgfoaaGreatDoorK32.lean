/- Texts of the row's proof. Conditions: none. -/
import Derived.Test.YtennppmadmgfoaaGreatDoorK19
import Derived.Test.YtennppmadmgfoaaGreatDoorK28
import Derived.Test.YtennppmadmgfoaaGreatDoorK31
namespace Go.Proofs.YtennppmadmgfoaaGreatDoor
open Proofs.Tryz
set_option maxRecDepth 100000
set_option maxHeartbeats 8000000
section
open Go.RowKit
theorem Q2 {p:Prop} (h:p:=by
 rintro e w5 hc5;obtain ⟨S5,V5,vo5,rfl,G5,_,f5,_⟩:=hc5;obtain ⟨a5,c5,rfl,hD⟩:=DoG.of (w:=w) G5 hN3 HG.out.2.2.2.2 HG.out.2.2.2.1 HG.out.2.2.1 f5 HG.out.2.1
 try rw [List.nil_append] at hD
 rw [<- hR1] at hD;have HD:=KL hD.drew;have HD0:=KL (show w5.heap[w3.heap.size]?=some (.cells (dz R.1 V5++[Value.slice a5 R.2.length c5]).toArray 134 (0,0))/\w5.cell? ⟨w3.heap.size,26,none⟩=some (.slice a5 R.2.length c5) from ⟨hD.hp,by rw [ae hD.hp 26];rfl⟩);have HNe:=KL (show w3.heap.size≠w.heap.size+2 by have:=hD.ne;omega);have l5:=lt_of_block hD.hp;have x26:=HD0.out.2;clear G5 f5 hD hR1 y0 l3;go_wp2_with fail;refine Zr (fun w':World=>w'.heap[w3.heap.size]?=some (.cells (dz R.1 V5++[Value.slice a5 R.2.length c5]).toArray 134 (0,0))/\w'.cell? ⟨w3.heap.size,26,none⟩=some (.slice a5 R.2.length c5)) (fun hHeld=>?_) (by (try dsimp only);(first|exact HD0.out|exact ⟨bD HD0.out.1 HNe.out,bG HD0.out.2 HNe.out⟩));refine dl 0 ?_;refine Zt 2 ?_;refine eY 4 ?_;refine Z1 3 (fun K hK=>?_);rw [if_pos (by rfl)];(first|(refine wp_load_mid 56 (.tmp 55) rfl w3.heap.size 0 rfl (dz R.1 V5) _ (wX HD.out.hp) underlying56 rfl (by kernel_rfl) ?_)|(refine LQ 56 (.tmp 4) (.tmp 56) rfl (w.heap.size+2) (dz R.1 V5).toArray rfl rfl 56 bS HD.out.hz (by kernel_rfl) rfl (kH HD.out.wk) ?_));refine Zk hK (hS:=by (try dsimp only);(first|exact HD0.out|exact ⟨bD HD0.out.1 HNe.out,bG HD0.out.2 HNe.out⟩)) fun hHeld=>?_;clear hK K;refine Z1 8 (fun K hK=>?_);rw [if_pos (by rfl)];(first|(refine wp_load_mid 56 (.tmp 55) rfl w3.heap.size 0 rfl (dz R.1 V5) _ (wX HD.out.hp) underlying56 rfl (by kernel_rfl) ?_)|(refine LQ 56 (.tmp 4) (.tmp 56) rfl (w.heap.size+2) (dz R.1 V5).toArray rfl rfl 56 bS HD.out.hz (by kernel_rfl) rfl (kH HD.out.wk) ?_));refine Zk hK (hS:=by (try dsimp only);(first|exact HD0.out|exact ⟨bD HD0.out.1 HNe.out,bG HD0.out.2 HNe.out⟩)) fun hHeld=>?_;clear hK K;refine dl 9 ?_;refine Zd ?_;go_wp2_with fail;refine LN (v:=.tuple #[.agg (dz R.1 V5).toArray,.slice a5 R.2.length c5,.int .i64 0]) ?_ rfl ?_
 ·exact mU results25 _ _ (w.heap.size+2) 56 (dz R.1 V5).toArray (0,0) _ _ _ rfl rfl rfl (bB HD.out.hz) underlying56 rfl (by kernel_rfl)
 ·exact ⟨V5,a5,c5,rfl,(HD.out.fin _).1,(HD.out.fin _).2.1,(HD.out.fin _).2.2⟩):p:=h
theorem Q4 {p:Prop} (h:p:=by
 have HAz:=KL (HA1.out.below hbz);have hpz:=HAz.out.plt;have d5:=ah hbz d5 k1;have x8:=ah hbz x8 hp1;by_cases hre:f5=X.cf.retries
 ·subst hre;go_wp2_with fail;refine Zr (fun w':World=>w'.cell? ⟨p,8,none⟩=some (.int .i64 X.cf.retries)/\w'.cell? ⟨g,i*7+5,none⟩=some (.int .i64 X.cf.retries)) (fun hHeld=>?_);refine eD 0 ?_;refine eY 8 ?_;refine dl 12 ?_;refine Zt 14 ?_;refine Zd ?_;refine bA _ (fun wy hwy=>?_)
  have hby:Below wz.heap.size wz wy:=by rw [hwy];exact KN (KM _ _)
  have HAy:=KL (HAz.out.below hby);clear hwy;clear hby hbz hnz;go_wp2_with (go_at_call 77;refine (iC HAy.out.g i hi1 (by rw [HEf1.out];omega) ⟨6,0,0,0,0,0,why⟩ _ HF1.out _ (HM1.out.drop HFm1.out) (HM1.out.tabd HFm1.out) HM1.out.bk HM1.out.wh HM1.out.wn (by omega)).mono ?_;rintro e w3 hc3;obtain ⟨S3,V3,vo3,rfl,A3,hq3,hz3,hb3⟩:=HAy.out.call hc3;clear hc3);have HA3:=KL A3;clear A3;go_wp2_with fail;refine LN (v:=.tuple #[]) (by simp [results,results78,go_sem]) rfl ?_;rw [Gv HF.out why (Or.inl rfl),Lm,<- HX1.out,Dw HF1.out,Dv HF1.out];exact HA3.out.fin trivial
 ·have hne:(f5 == X.cf.retries)=false:=by simpa using hre
  go_wp2_with fail;refine Zr (fun w':World=>w'.cell? ⟨p,8,none⟩=some (.int .i64 X.cf.retries)/\w'.cell? ⟨g,i*7+5,none⟩=some (.int .i64 f5)) (fun hHeld=>?_);refine eD 0 ?_;refine eY 8 ?_;refine dl 12 ?_;refine Zt 14 ?_;refine Zd ?_;refine bA _ (fun wy hwy=>?_)
  have hby:Below wz.heap.size wz wy:=by rw [hwy];exact KN (KM _ _)
  have HAy:=KL (HAz.out.below hby);clear hwy;have hbz0:=hbz.size;have hzy:Below w1.heap.size w1 wy:=hbz.trans (hby.mono hbz.size);have hny:=aj hby hnz (lt_of_block hnz);have d5:=ah hby d5 (by have:=hbz0;omega);have d0:=ah hzy d0 k1;have d1:=ah hzy d1 k1;have d2:=ah hzy d2 k1;have d3:=ah hzy d3 k1;have d6:=ah hzy d6 k1;have x7:=ah hzy x7 hp1
  have gy:g<wy.heap.size:=by have:=hzy.size;omega
  have py:p<wy.heap.size:=HAy.out.plt;have hzy1:=hzy.size;clear hbz hby hnz hzy x10 x11 x12 x23;obtain ⟨pb,pc,hpw⟩:∃ pb pc,dG X1 ky (s:Int)=(pb,pc):=⟨_,_,rfl⟩;have HPk:=KL (show vV X1 ky (s:Int) pb pc from by have:=HM1.out.pick ky (HM1.out.butF HFm1.out);simp only at this;rw [hpw] at this;exact this);have HPw:=KL hpw;clear hpw;go_wp2_with fail;refine Zr (fun w':World=>w'.cell? ⟨g,i*7,none⟩=some (.int .i64 (s:Int))/\w'.cell? ⟨g,i*7+2,none⟩=some (.int .i64 (ky:Int))) (fun hHeld=>?_);refine eD 0 ?_;refine dl 8 ?_;refine Z1 10 (fun K hK=>?_);go_simp;(go_at_call 64;refine (rf (fT HAy.out.g.gr Zb) ky (s:Int) hky HM1.out.ring (HM1.out.load (by have:=hs;rw [HX1.out];simp only [ce];omega)) (by rw [HEf1.out];omega) _ _ HPk.out).mono ?_;rintro e w3 ⟨rfl,hb3⟩;have hz3:=hb3.size;(try simp at hz3);(try dsimp only));(try go_wp2_with fail);refine Zk hK fun hHeld=>?_;clear hK K;refine eY 11 ?_;refine Zt 15 ?_;refine Zd ?_;have h3:Below wy.heap.size wy w3:=KS (KN (KM _ _)) (hb3.mono (by simp));have HAy:=KL (HAy.out.below h3)
  have hnor:¬ (f5=X.cf.retries\/X.tok<X.cf.bd):=by rintro (e|e);exact hre e;omega
  have HNr:=KL hnor;clear hnor;by_cases hpc:pc=0
  ·subst hpc;have HPw2:=KL (show (dG (ce X (Int.toNat (bk:Int)) true) (Int.toNat (ky:Int)) (s:Int))=(pb,0) from by rw [Lm,Lm,<- HX1.out];exact HPw.out);have hpb:=Bd HM1.out (HM1.out.butF HFm1.out) (key:=ky) (by simp only;rw [HPw.out]);simp only at hpb;rw [HPw.out] at hpb;obtain ⟨pb0,pb1⟩:0<=pb/\pb<=11:=hpb;have d0:=ah h3 d0 gy;have d1:=ah h3 d1 gy;have d2:=ah h3 d2 gy;have d3:=ah h3 d3 gy;have d5:=ah h3 d5 gy;have d6:=ah h3 d6 gy;have x7:=ah h3 x7 py;have hn3:=aj h3 hny (lt_of_block hny);have n0:w3.cell? ⟨nb,0,none⟩=some (.int .i64 (X.tok - X.cf.bd)):=ae hn3 0;have x23:=HAy.out.c 23 (v:=.int .i64 X1.tok) rfl;have xf:∀ n,w3.frozen? ⟨p,n,none⟩=false:=fun n=>HAy.out.free n
   have g3:g<w3.heap.size:=by have:=h3.size;omega
   have p3:p<w3.heap.size:=HAy.out.plt;clear h3 hb3;go_wp2_with fail;refine bA _ (fun wt hwt=>?_);have HAt:=KL (show GA B p w S wt { X1 with tok:=X.tok - X.cf.bd } O S1 V1 vo1 from by rw [hwt];exact HAy.out.cell 23 (.int .i64 (X.tok - X.cf.bd)) { X1 with tok:=X.tok - X.cf.bd } V1 rfl rfl rfl rfl rfl rfl { HAy.out.g.ro with })
   have ht:∀ b,b≠p->wt.heap[b]?=w3.heap[b]?:=fun b hb=>by rw [hwt];exact KV _ _ _ _ hb
   have htz:wt.heap.size=w3.heap.size:=by rw [hwt];simp
   have tg:∀ j v,w3.cell? ⟨g,j,none⟩=some v->wt.cell? ⟨g,j,none⟩=some v:=fun j v e=>(Lg (w:=w3) (w':=wt) (a:=⟨g,j,none⟩) (ht g hg2)).trans e;have d0:=tg _ _ d0;have d1:=tg _ _ d1;have d3:=tg _ _ d3;have d5:=tg _ _ d5;have d6:=tg _ _ d6
   have x7:wt.cell? ⟨p,7,none⟩=some (.int .i64 X.cf.connect):=by have:=HAt.out.c 7 (v:=.int .i64 X1.cf.connect) rfl;rw [HEc1.out] at this;exact this
   have x17:=HAt.out.c 17 (v:=V1.t) rfl;obtain ⟨at_,ct,et,_⟩:=ap HAt.out.g.gr.1.ta.1;rw [et] at x17;have HTb:=KL HAt.out.g.gr.1.ta.1;rw [et] at HTb;have gt:g<wt.heap.size:=by omega
   have pt:p<wt.heap.size:=by omega
   have xf:∀ n,wt.frozen? ⟨p,n,none⟩=false:=fun n=>HAt.out.free n;clear hwt ht htz tg n0 hn3 x23 et d2;obtain ⟨Y,hY⟩:∃ Y,Y=X1.tab.set (s:Int).toNat ⟨f1,true,(ky:Int),pb⟩:=⟨_,rfl⟩;have HMv:=KL (show vT X1.tab (s:Int) f1 pb Y 0 from by rw [hY];exact HM1.out.move HFm1.out pb0 pb1)
   have hYm:dR Y:=by rw [hY];exact qe HM1.out.tb _ (by unfold dB;rw [if_pos rfl];simp only;omega)
   have HY:=KL hY;have HYm:=KL hYm;clear hY hYm;refine Zr (fun w':World=>w'.cell? ⟨g,i*7,none⟩=some (.int .i64 (s:Int))/\w'.cell? ⟨g,i*7+1,none⟩=some (.int .i64 f1)) (fun hHeld=>?_);refine eY 0 ?_;refine Zt 4 ?_;refine eY 6 ?_;refine Zt 10 ?_;refine Z1 5 (fun K hK=>?_);go_simp;refine Zk hK fun hHeld=>?_;clear hK K;refine Z1 11 (fun K hK=>?_);go_simp;(go_at_call 127;refine (Cv X1.tab _ _ _ _ 0 _ _ (aq HTb.out Zb) HMv.out).mono ?_;rintro e w4 ⟨v4,rfl,R4,hb4⟩;obtain ⟨a4,c4,rfl,_⟩:=ap R4.1;have hz4:=hb4.size;(try simp at hz4);have bw4:Below wt.heap.size wt w4:=KS (KN (KM wt.heap.size wt)) (hb4.mono (by simp));have x17:=ah bw4 x17 pt;have xf:∀ n,w4.frozen? ⟨p,n,none⟩=false:=(fun n=>(bw4.frozen (p:=⟨p,n,none⟩) pt).trans (xf n));(try dsimp only));(try go_wp2_with fail);refine Zk hK fun hHeld=>?_;clear hK K;refine eY 12 ?_;refine dl 16 ?_;refine Z1 18 (fun K hK=>?_);go_simp;refine Zk hK fun hHeld=>?_;clear hK K;refine Zd ?_;refine bA _ (fun w5 hw5=>?_);have A4:=HAt.out.below bw4;have HA5:=KL (show GA B p w S w5 { X1 with tok:=X.tok - X.cf.bd,tab:=Y } O S1 { V1 with t:=.slice a4 Y.length c4 } vo1 from by rw [hw5];exact A4.cell 17 (.slice a4 Y.length c4) { X1 with tok:=X.tok - X.cf.bd,tab:=Y } { V1 with t:=.slice a4 Y.length c4 } rfl rfl rfl rfl rfl rfl { A4.g.ro with ta:=dv HAt.out.g R4 (by simp) });clear A4 hw5 x17 xf d0 d1 d3 d5 d6 x7 hb4 bw4 R4 HTb;obtain ⟨_,q1,q2,q3,q4,q5⟩:=HA5.out.flow HEv1.out (X:={ X1 with tok:=X.tok - X.cf.bd,tab:=Y }) hi1 HF1.out;have d3:w5.cell? ⟨g,i*7+3,none⟩=some (.int .i64 (bk:Int)):=q5 3 (by omega);have d5:w5.cell? ⟨g,i*7+5,none⟩=some (.int .i64 f5):=q5 5 (by omega)
   have x7:w5.cell? ⟨p,7,none⟩=some (.int .i64 X.cf.connect):=by have:=HA5.out.c 7 (v:=.int .i64 X1.cf.connect) rfl;rw [HEc1.out] at this;exact this
   have p5:p<w5.heap.size:=HA5.out.plt;clear q5;go_wp2_with fail;obtain ⟨w6,hw6⟩:∃ w6,w6=(w5.setCell ⟨g,i*7+3,none⟩ (.int .i64 pb)).setCell ⟨g,i*7+5,none⟩ (.int .i64 (f5+1)):=⟨_,rfl⟩;rw [<- hw6];have A6:=(HA5.out.flset HEv1.out (i*7+3) (.int .i64 pb) (X1.flows.set i ⟨(s:Int),f1,(ky:Int),pb,f4,f5,f6⟩) (by simp) (oO hi1 HF1.out 3 (by omega) (.int .i64 pb) ⟨(s:Int),f1,(ky:Int),pb,f4,f5,f6⟩ rfl));have A6:=(A6.flset HEv1.out (i*7+5) (.int .i64 (f5+1)) ((X1.flows.set i ⟨(s:Int),f1,(ky:Int),pb,f4,f5,f6⟩).set i ⟨(s:Int),f1,(ky:Int),pb,f4,f5+1,f6⟩) (by simp) (oO (by simpa using hi1) (rT hi1 _) 5 (by omega) (.int .i64 (f5+1)) ⟨(s:Int),f1,(ky:Int),pb,f4,f5+1,f6⟩ rfl));rw [<- hw6,List.set_set] at A6;simp only at A6;have HA6:=KL A6;obtain ⟨_,q1,q2,q3,q4,q5⟩:=HA6.out.flow HEv1.out (i:=i) (by simpa using hi1) (rT hi1 ⟨(s:Int),f1,(ky:Int),pb,f4,f5+1,f6⟩);have d0:w6.cell? ⟨g,i*7,none⟩=some (.int .i64 (s:Int)):=q5 0 (by omega);have d6:w6.cell? ⟨g,i*7+6,none⟩=some (.int .i64 f6):=q5 6 (by omega);have hcn:=HX.out.cf.1.1;have hn1:=HM1.out.n1
   have htm:dN ⟨X1.now+X.cf.connect,(s:Int)⟩ X1.now:=by unfold dN;simp only;have:=HX.out.tb.2.1;omega
   have HTm:=KL htm;clear A6 hw6 q5 d3 d5 x7 htm hcn hn1;refine (mW HA6.out.g g (i*7) (s:Int) X.cf.connect (X1.flows.set i ⟨(s:Int),f1,(ky:Int),pb,f4,f5+1,X1.now+X.cf.connect⟩) _ HA6.out.g.sp q1 hg2 d0 f6 d6 (q4 _) (fun w' X' V' gG ef ev _ _=>nT gG (by rw [ev];exact HEv1.out) (i*7+6) _ _ (by rw [ef];simp) (by rw [ef];have:=oO (F:=X1.flows.set i ⟨(s:Int),f1,(ky:Int),pb,f4,f5+1,f6⟩) (i:=i) (by simpa using hi1) (rT hi1 _) 6 (by omega) (.int .i64 (X1.now+X.cf.connect)) ⟨(s:Int),f1,(ky:Int),pb,f4,f5+1,X1.now+X.cf.connect⟩ rfl;rw [List.set_set] at this;exact this)) HM1.out.wh HM1.out.wn HTm.out).mono ?_;rintro e w7 ⟨V7,rfl,G7,hK7,hF7,_⟩;have HA7:=KL (HA6.out.same G7 hF7)
   have ev7:V7.f=.slice (some ⟨g,0,none⟩) X.flows.length cfl:=by rw [hK7.1];exact HEv1.out
   obtain ⟨_,k1,k2,k3,k4,k5⟩:=HA7.out.flow ev7 (i:=i) (by simpa using hi1) (rT hi1 ⟨(s:Int),f1,(ky:Int),pb,f4,f5+1,X1.now+X.cf.connect⟩);have d0:w7.cell? ⟨g,i*7,none⟩=some (.int .i64 (s:Int)):=k5 0 (by omega);have d1:w7.cell? ⟨g,i*7+1,none⟩=some (.int .i64 f1):=k5 1 (by omega);have p7:p<w7.heap.size:=HA7.out.plt;have hXe:=KL (show iS X1 i pb={ X1 with tok:=X.tok - X.cf.bd,tab:=Y,flows:=X1.flows.set i ⟨(s:Int),f1,(ky:Int),pb,f4,f5+1,X1.now+X.cf.connect⟩,lists:=jP X1.now X1.lists (s:Int) X.cf.connect } from by unfold iS;rw [HF1.out,HEt1.out,HEc1.out,HY.out]);have HEv7:=KL ev7;have hi7:i<(X1.flows.set i ⟨(s:Int),f1,(ky:Int),pb,f4,f5+1,X1.now+X.cf.connect⟩).length:=by simpa using hi1
   have HF7:=KL (rT hi1 ⟨(s:Int),f1,(ky:Int),pb,f4,f5+1,X1.now+X.cf.connect⟩);have l0:0<7:=by omega
   have l1:1<7:=by omega
   clear G7 hK7 hF7 ev7 k5;go_wp2_with fail;refine Zr (fun w':World=>w'.cell? ⟨g,i*7,none⟩=some (.int .i64 (s:Int))/\w'.cell? ⟨g,i*7+1,none⟩=some (.int .i64 f1)) (fun hHeld=>?_) (by (try dsimp only);((go_split_ands;(try dsimp only);(repeat' apply And.intro);all_goals (first|with_reducible assumption|with_reducible exact cq ‹_›|trivial))));refine eD 0 ?_;refine eY 8 ?_;refine Zt 12 ?_;refine Z1 13 (fun K hK=>?_);go_simp;(go_at_call 63;refine (dw (dF HA7.out.g Zb) ⟨5,(s:Int),f1,pb,0,0,0⟩ (by omega)).mono ?_;rintro e w8 hc8;obtain ⟨S8,V8,vo8,rfl,A8,hq8,hz8,hb8⟩:=(HA7.out.below (KN (KM _ _))).call hc8;subst hq8;obtain ⟨_,_,_,_,_,k8⟩:=A8.flow HEv7.out hi7 HF7.out;have d0:w8.cell? ⟨g,i*7,none⟩=some (.int .i64 (s:Int)):=k8 0 l0;have d1:w8.cell? ⟨g,i*7+1,none⟩=some (.int .i64 f1):=k8 1 l1;clear hc8 k8;(try dsimp only));(try go_wp2_with fail);refine Zk hK (hS:=by (try dsimp only);((go_split_ands;(try dsimp only);(repeat' apply And.intro);all_goals (first|with_reducible assumption|with_reducible exact cq ‹_›|trivial)))) fun hHeld=>?_;clear hK K;refine Zd ?_;have HA8:=KL A8;have e:=fail_c HF.out why HNr.out (show (dG (ce X (Int.toNat (bk:Int)) true) (Int.toNat (ky:Int)) (s:Int)).2=0 from by rw [HPw2.out]);simp only at e;rw [HPw2.out,Lm,<- HX1.out] at e;simp only at e;have HE:=KL e;clear A8 e d0 d1 k1 k2 k3 k4 hb8;by_cases hbp:(bk:Int)=pb
   ·subst hbp;go_wp2_with fail;refine LN (v:=.tuple #[]) (by simp [results,results78,go_sem]) rfl ?_;rw [HE.out,if_pos (by trivial)];simp only;rw [hXe.out];exact HA8.out.fin trivial
   ·have hne:((bk:Int) != pb)=true:=by simpa using hbp
    have HNe:=KL hbp;clear hbp;go_wp2_with fail;refine (kC HA8.out.g (bk:Int) HM1.out.bk HYm.out (by rw [Ll,List.length_singleton];omega)).mono ?_;rintro e w9 hc9;obtain ⟨S9,V9,vo9,rfl,A9,hq9,hz9,hb9⟩:=HA8.out.call hc9;have HA9:=KL A9;clear hc9 A9 hq9 hb9;go_wp2_with fail;refine LN (v:=.tuple #[]) (by simp [results,results78,go_sem]) rfl ?_;rw [HE.out,if_neg HNe.out];simp only;rw [hXe.out,List.append_cons];exact HA9.out.fin trivial
  ·have hne:(pc != 0)=true:=by simpa using hpc
   have HPc:=KL (show (dG (ce X (Int.toNat (bk:Int)) true) (Int.toNat (ky:Int)) (s:Int)).2≠0 from by rw [Lm,Lm,<- HX1.out,HPw.out];exact hpc);clear h3 hb3 hpc;go_wp2_with (go_at_call 77;refine (iC HAy.out.g i hi1 (by rw [HEf1.out];omega) ⟨6,0,0,0,0,0,4⟩ _ HF1.out _ (HM1.out.drop HFm1.out) (HM1.out.tabd HFm1.out) HM1.out.bk HM1.out.wh HM1.out.wn (by omega)).mono ?_;rintro e w3 hc3;obtain ⟨S3,V3,vo3,rfl,A3,hq3,hz3,hb3⟩:=HAy.out.call hc3;clear hc3);have HA3:=KL A3;clear A3;go_wp2_with fail;refine LN (v:=.tuple #[]) (by simp [results,results78,go_sem]) rfl ?_;rw [fail_b HF.out why HNr.out HPc.out,Lm,<- HX1.out,Dw HF1.out,Dv HF1.out];exact HA3.out.fin trivial):p:=h
theorem Q14 {p:Prop} (h:p:=by
 refine eD 0 ?_;refine eY 8 ?_;refine dl 12 ?_;refine Zt 14 ?_;refine Zd ?_;refine bA _ (fun wy hwy=>?_)
 have hby:Below wz.heap.size wz wy:=by rw [hwy];exact KN (KM _ _)
 have HAy:=KL (HAz.out.below hby);clear hwy;clear hby hbz hnz;go_wp2_with (go_at_call 77;refine (iC HAy.out.g i hi1 (by rw [HEf1.out];omega) ⟨6,0,0,0,0,0,why⟩ _ HF1.out _ (HM1.out.drop HFm1.out) (HM1.out.tabd HFm1.out) HM1.out.bk HM1.out.wh HM1.out.wn (by omega)).mono ?_;rintro e w3 hc3;obtain ⟨S3,V3,vo3,rfl,A3,hq3,hz3,hb3⟩:=HAy.out.call hc3;clear hc3);have HA3:=KL A3;clear A3;go_wp2_with fail;refine LN (v:=.tuple #[]) (by simp [results,results78,go_sem]) rfl ?_;rw [Gv HF.out why (Or.inr hsp),Lm,<- HX1.out,Dw HF1.out,Dv HF1.out];exact HA3.out.fin trivial):p:=h
theorem Q26 {p:Prop} (h:p:=by
 refine bA _ (fun wz hwz=>?_);have hba:Below w2.heap.size w2 w3:=KS (KN ((KM _ _).alloc (KY _) _)) (hb3.mono (by simp));have hle:=KY w2.heap.size
 have hbz:Below w2.heap.size w2 wz:=by rw [hwz];exact (hba.setCell hle _).setCell hle _
 have h1:aN w2.heap.size wz 6 (.slice a1 L'.length c1) (L'.map Lf.cells):=by rw [hwz];exact aJ (aD (aD R1 (by simp) _) (by simp) _) (by simp)
 have h2:aN w2.heap.size wz 5 (.slice a2 R'.length c2) (R'.map Rq.cells):=by rw [hwz];exact aJ (aD (aD R2 (by simp) _) (by simp) _) (by simp)
 obtain ⟨nb,hnb⟩:∃ nb,nb=w2.heap.size:=⟨_,rfl⟩
 have hnz:wz.heap[nb]?=some (.cells #[.slice a1 L'.length c1,.slice a2 R'.length c2] 45 (0,0)):=by rw [hwz,hnb];exact aR (j:=1) (aR (j:=0) bxb (.slice a1 L'.length c1)) (.slice a2 R'.length c2)
 rw [<- hnb];exact key nb a1 c1 a2 c2 wz ⟨hbz,hnz,h1,h2⟩):p:=h
theorem Q31 {p:Prop} (h:p:=by
 refine bA _ (fun wz hwz=>?_)
 have hbz:Below w2.heap.size w2 wz:=by rw [hwz];exact (KS (KN (KM _ _)) (hb3.mono (by simp))).alloc (by omega) _
 have h1:aN w2.heap.size wz 6 (.slice a1 L'.length c1) (L'.map Lf.cells):=by rw [hwz];exact cX (aJ R1 (by simp)) _
 have h2:aN w2.heap.size wz 5 (.slice a2 R'.length c2) (R'.map Rq.cells):=by rw [hwz];exact cX (aJ R2 (by simp)) _
 obtain ⟨nb,hnb⟩:∃ nb,nb=w3.heap.size:=⟨_,rfl⟩
 have hnz:wz.heap[nb]?=some (.cells #[.slice a1 L'.length c1,.slice a2 R'.length c2] 45 (0,0)):=by rw [hwz];exact aB _ hnb
 rw [<- hnb];exact key nb a1 c1 a2 c2 wz ⟨hbz,hnz,h1,h2⟩):p:=h
theorem Q38 {p:Prop} (h:p:=by
 go_wp2_with fail;go_quiet (fail);go_wp2;go_roundw
 case rel=>exact ⟨k+1,by omega,by go_num,HS.out.step (HKe.out (by decide)) (by repeat (first|exact KM _ _|refine aM ?_|refine KU ?_ (by first|omega|(simp;done)|(simp;omega)) _))⟩
 case measure=>simp [intOf];omega):p:=h
theorem Q49 {p:Prop} (h:p:=by
 refine eD 0 ?_;refine eY 8 ?_;refine Zt 12 ?_;refine Zd ?_;go_wp2;go_roundw;(case rel=>(refine ⟨k+1,by omega,by go_num,SD,V4,vo4,?_,?_⟩;(rw [HE.out];exact HA9.out.below (KN (KM _ _)));(exact bZ HL9.out (Fr.of_below (KN (KM _ _)):Fr SD w5 _) (fun _ hx=>Or.inl hx))));(case measure=>(simp [intOf];omega))):p:=h
theorem Q50 {p:Prop} (h:p:=by
 go_wp2_with (go_at_call 26;refine (bO _ _ _ (by omega) (by omega) (by omega) (by omega)).mono ?_;rintro e w1 ⟨rfl,rfl⟩);go_meet
 case rel=>exact ⟨rfl,rfl⟩):p:=h
theorem Q53 {p:Prop} (h:p:=by
 unfold nM
 split
 ·unfold oR gz
  split
  ·simp
  ·split
   ·simp
   ·simp
 ·split
  ·rw [lL (fun o ho=>by rcases BJ ho with g|g<;>rw [g]<;>decide)];simp
  ·split
   ·rw [lL (fun o ho=>by rcases wL ho with g|g|g<;>rw [g]<;>decide)];simp
   ·rw [lL (fun o ho=>yl ho)];simp):p:=h
theorem Q56 {p:Prop} (h:p:=by
 have hne:(ans != 0)=true:=by simpa using ha0
 have HNe:=KL ha0;clear ha0;go_wp2_with fail;refine LN (v:=.tuple #[]) (by simp [results,results37,go_sem]) rfl ?_;rw [HAW.out];unfold jQ;simp only;rw [if_pos (by simp [HNe.out])];exact HA5.out.fin trivial):p:=h
theorem Q148 {p:Prop} (h:p:=by
 rintro (g|g|g)
 ·exact Or.inr (Or.inl g)
 ·exact Or.inl g
 ·exact Or.inr (Or.inr g)):p:=h
theorem Q60 {p:Prop} (h:p:=by
 simp only [List.mem_append,List.mem_cons];constructor
 ·exact Q148
 ·exact Q148):p:=h
theorem Q68 {p:Prop} (h:p:=by
 have HAz:=KL (HA1.out.below hbz);have hpz:=HAz.out.plt;have d5:=ah hbz d5 k1;have x8:=ah hbz x8 hp1;by_cases hre:f5=X.cf.retries
 ·subst hre;go_wp2_with fail;refine Zr (fun w':World=>w'.cell? ⟨p,8,none⟩=some (.int .i64 X.cf.retries)/\w'.cell? ⟨g,i*7+5,none⟩=some (.int .i64 X.cf.retries)) (fun hHeld=>?_);exact Q14
 ·have hne:(f5 == X.cf.retries)=false:=by simpa using hre
  go_wp2_with fail;refine Zr (fun w':World=>w'.cell? ⟨p,8,none⟩=some (.int .i64 X.cf.retries)/\w'.cell? ⟨g,i*7+5,none⟩=some (.int .i64 f5)) (fun hHeld=>?_);exact Q14):p:=h
theorem Q77 {p:Prop} (h:p:=by
 obtain ⟨h0,h1,h3,h4,h5,h6,h7,h8,h9,k0,k1,k2,l0,l1,l2⟩:=h;exact ⟨k _ _ h0,k _ _ h1,k _ _ h3,k _ _ h4,k _ _ h5,k _ _ h6,k _ _ h7,k _ _ h8,k _ _ h9,k _ _ k0,k _ _ k1,k _ _ k2,k _ _ l0,k _ _ l1,k _ _ l2⟩):p:=h
theorem Q80 {p:Prop} (h:p:=by
 exact ⟨hR,fun _ g=>absurd g (by decide),by rw [vN (Or.inr (Or.inl (by decide)))];exact h.req hR⟩):p:=h
theorem Q86 {p:Prop} (h:p:=by
 go_wp2_with fail;refine LN (v:=.tuple #[]) (by simp [results,results37,go_sem]) rfl ?_;rw [HAW.out];unfold jQ;simp only;rw [if_pos (Or.inl trivial)];exact HA5.out.fin trivial):p:=h
theorem Q93 {p:Prop} (h:p:=by
 go_wp2;go_roundw
 case rel=>exact ⟨k+1,by omega,by go_num,H5.out.1.alloc H5.out.1.size _,(heap_alloc_old _ _ l5').trans H5.out.2⟩
 case measure=>simp [intOf];omega):p:=h
theorem Q101 {p:Prop} (h:p:=by
 rw [if_neg h,List.pairwise_cons,List.pairwise_cons];refine ⟨fun g hg=>?_,hs⟩;rcases List.mem_cons.1 hg with rfl|hg
 ·omega
 ·have:=hs.1 g hg;omega):p:=h
theorem Q102 {p:Prop} (h:p:=by
 rw [List.nodup_iff_pairwise_ne,List.pairwise_map];refine h.so.imp_of_mem fun {a b} ha hb hab=>?_;have h1:=(h.fl a ha).s0;have h2:=(h.fl b hb).s0;omega):p:=h
theorem Q105 {p:Prop} (h:p:=by
 rw [qr]
 cases dJ L b with
 | none=>rfl
 | some x=>
  simp only [Option.map_some,LI];unfold Lf.wk;by_cases e:x.state=1<;>simp [e]):p:=h
theorem Q108 {p:Prop} (h:p:=by
 rcases List.mem_append.1 h with h|h
 ·exact Or.inl h
 ·rcases qw h with h|h
  ·exact Or.inr (Or.inl h)
  ·exact Or.inr (Or.inr (Or.inr h))):p:=h
theorem Q109 {p:Prop} (h:p:=by
 have h3:(ez X.now X.flows).length<=X.flows.length:=by unfold ez;rw [Lh];exact List.length_filter_le _ _
 have:=h.len;omega):p:=h
theorem Q115 {p:Prop} (h:p:=by
 rw [show (dQ L).getD b 0=0 by simp only [List.getD];rw [Lu (by rw [cI];omega)];rfl];omega):p:=h
theorem Q116 {p:Prop} (h:p:=by
 simp only [List.mem_append,List.mem_cons] at hk ⊢;rcases hk with hk|hk
 ·exact Or.inl hk
 ·exact Or.inr (Or.inr hk)):p:=h
theorem Q132 {p:Prop} (h:p:=by
 rcases Nat.lt_or_ge j L.length with g|g
 ·exact g
 ·rw [Lu g] at hj
  cases hj):p:=h
theorem Q134 {p:Prop} (h:p:=by
 go_in;go_wp2
 all_goals first|(go_ret;exact ⟨rfl,rfl⟩)|exact Zx):p:=h
theorem Q136 {p:Prop} (h:p:=by
 obtain ⟨c,hc,hu⟩:=List.mem_flatten.1 hu;obtain ⟨x,_,rfl⟩:=LH.1 hc;exact Q58):p:=h
theorem Q142 {p:Prop} (h:p:=by
 rw [hl] at hs;simp only [Option.map_some,LI] at hs ⊢;unfold Lf.wk;simp [hs]):p:=h
theorem Q145 {p:Prop} (h:p:=by
 exact ⟨h.bk,(fun g=>absurd g (by decide)),by rw [vN (Or.inl rfl)];exact h⟩):p:=h
theorem Q146 {p:Prop} (h:p:=by
 rcases List.mem_cons.1 h with rfl|h
 ·exact Or.inl rfl
 ·exact Or.inr (qO h)):p:=h
theorem Q147 {p:Prop} (h:p:=by
 rintro (h|h|h)
 ·exact Or.inr (Or.inl h)
 ·exact Or.inl h
 ·exact Or.inr (Or.inr h)):p:=h
theorem Q149 {p:Prop} (h:p:=by
 rcases h6.2.2.1 b hb with g|g
 ·exact Or.inl g
 ·exact Or.inr (by simp at g;omega)):p:=h
theorem Q151 {p:Prop} (h:p:=by
 have h1:=(h.fl f hf).sl;rw [hs,Lm] at h1;rw [h1] at hb;exact hb):p:=h
theorem Q152 {p:Prop} (h:p:=by
 rcases uG hs hi hb hx with rfl|⟨hx,_⟩
 ·exact hsi
 ·exact h.si x hx):p:=h
theorem Q153 {p:Prop} (h:p:=by
 rw [<- hnb] at hwz hD ⊢;exact key nb V2 a2 c2 wz (by rw [hwz];exact hD)):p:=h
instance (L:List Ld) (C:List Int) (i:Nat):Decidable (ru L C i):=by unfold ru;infer_instance
def kh (L:List Ld) (C:List Int):Nat->Int
 | 0=>-1
 | k+1=>if ru L C k then (if kh L C k<0\/tz L k*sD L (kh L C k).toNat<tz L (kh L C k).toNat*sD L k then (k:Int) else kh L C k) else kh L C k
theorem yF (L:List Ld) (C:List Int):∀ n,eK L C 0 n (kh L C n)
 | 0=>sg 0
 | k+1=>by
  have h:=yF L C k;unfold kh;by_cases hk:ru L C k
  ·rw [if_pos hk];by_cases hn:kh L C k<0\/tz L k*sD L (kh L C k).toNat<tz L (kh L C k).toNat*sD L k
   ·rw [if_pos hn];exact kT h hk hn
   ·rw [if_neg hn];exact nQ h (by omega) (fun z=>hn (Or.inr z))
  ·rw [if_neg hk];exact mL h hk
def Be (h:List Int) (L:List Ld) (num den flows tries:Int):Int×Int:=
 if ∀ z∈L,¬ 0<z.weight then (0,11)
 else if 0<=dM L (cD L num den flows) h tries then ((L.getD (dM L (cD L num den flows) h tries).toNat Ld.zero).backend,0)
 else if 0<=kh L (cD L num den flows) L.length then ((L.getD (kh L (cD L num den flows) L.length).toNat Ld.zero).backend,0) else (0,9)
theorem CB {Wk:List Int} {L:List Ld} {num den flows tries:Int} (h1:eJ L) (h2:gO num den flows) (h3:0<=tries) (h4:tries<=12) (h5:Wk.length<=12) :
  BN Wk L num den flows tries (Be Wk L num den flows tries).1 (Be Wk L num den flows tries).2:=by
 unfold Be
 by_cases hw:∀ x∈L,¬ 0<x.weight
 ·rw [if_pos hw];exact Or.inr (Or.inr (Or.inl ⟨h1,h2,h3,h4,h5,hw,rfl,rfl⟩))
 ·rw [if_neg hw]
  have hw':∃ x∈L,0<x.weight:=by
   refine Classical.byContradiction fun h=>hw fun x hx h2=>h ⟨x,hx,h2⟩
  refine Or.inr (Or.inr (Or.inr ⟨h1,h2,h3,h4,h5,hw',?_⟩));rcases sm (L:=L) (C:=cD L num den flows) Wk tries with ha|⟨m,ha,hm⟩
  ·rw [ha,if_neg (by omega)];have hb:=yF L (cD L num den flows) L.length;rcases BG hb with hb'|⟨m,hb',hm⟩
   ·rw [hb',if_neg (by omega)];exact Or.inr (Or.inr ⟨rfl,by rw [<- hb'];exact hb,rfl,rfl⟩)
   ·rw [hb',if_pos (by omega)];exact Or.inr (Or.inl ⟨rfl,m,hm,by rw [<- hb'];exact hb,by simp,rfl⟩)
  ·rw [ha,if_pos (by omega)];exact Or.inl ⟨m,hm,rfl,by simp,rfl⟩
def dG (X:Wd) (key:Nat) (but:Int):Int×Int:=Be (gZ X.ring (CY key)) (fu X but) X.cf.num X.cf.den (IK X but) X.cf.tries
def eQ (T:List Sl) (f:Fl):List Sl:=T.set f.slot.toNat ⟨f.gen+1,false,0,0⟩
def gV (X:Wd) (i:Nat) (kind h:Int):Wd×List Out:=
 ((cj (jy X i (eQ X.tab (X.flows.getD i Fl.zero))) (X.flows.getD i Fl.zero).backend).1,
  ⟨kind,(X.flows.getD i Fl.zero).slot,(X.flows.getD i Fl.zero).gen,(X.flows.getD i Fl.zero).backend,0,0,h⟩ :: (cj (jy X i (eQ X.tab (X.flows.getD i Fl.zero))) (X.flows.getD i Fl.zero).backend).2)
def iS (X:Wd) (i:Nat) (b:Int):Wd:=
 { X with tok:=X.tok - X.cf.bd,tab:=X.tab.set (X.flows.getD i Fl.zero).slot.toNat ⟨(X.flows.getD i Fl.zero).gen,true,(X.flows.getD i Fl.zero).key,b⟩,flows:=X.flows.set i { X.flows.getD i Fl.zero with backend:=b,retries:=(X.flows.getD i Fl.zero).retries+1,due:=X.now+X.cf.connect },lists:=jP X.now X.lists (X.flows.getD i Fl.zero).slot X.cf.connect }
def fg (X:Wd) (i:Nat) (K:Int):Wd×List Out:=
 let h:=X.flows.getD i Fl.zero
 let z:=ce X h.backend.toNat true
 if h.retries=X.cf.retries\/X.tok<X.cf.bd then gV z i 6 K
 else if (dG z h.key.toNat h.slot).2≠0 then gV z i 6 4
 else
  let E:=(dG z h.key.toNat h.slot).1
  let I:=iS z i E
  let J:=if h.backend=E then (I,[]) else cj I h.backend
  (J.1,⟨5,h.slot,h.gen,E,0,0,0⟩ :: J.2)
theorem aQ {α:Type} {L:List α} {i:Nat} (h:i<L.length) (d:α):L.getD i d=L[i]:=by simp [List.getD,h]
theorem rH {α:Type} {L:List α} {x:α} (z:x∈L) (d:α):∃ i,i<L.length/\L.getD i d=x:=by
 obtain ⟨i,h,rfl⟩:=List.mem_iff_getElem.1 z;exact ⟨i,h,aQ h d⟩
theorem cU {L:List Lf} {R:List Rq} (K:bJ L R):L.Pairwise fun a b=>a.backend<b.backend:=by
 have Y:∀ h z,z<h->h<L.length->(L.getD z Lf.zero).backend<(L.getD h Lf.zero).backend:=by
  intro h
  induction h with
  | zero=>intro z J;omega
  | succ h ih=>
   intro z J E;have I:=(K.2.2.1 (h+1) E).2;simp only [nk,Nat.add_sub_cancel,if_neg (Nat.succ_ne_zero h)] at I;rcases (show z<h\/z=h by omega) with U|rfl
   ·exact Int.lt_trans (ih z U (by omega)) I
   ·exact I
 refine List.pairwise_iff_getElem.2 fun z h J E W=>?_;have:=Y h z W E
 rwa [aQ J,aQ E] at this
theorem eZ {L:List Lf} {R:List Rq} (h:bJ L R) {x:Lf} (E:x∈L):eG x:=by
 obtain ⟨I,z,rfl⟩:=rH E Lf.zero;exact (h.2.2.1 I z).1
theorem eV {L:List Lf} {b:Int} {x:Lf} (h:dJ L b=some x):x∈L/\x.backend=b:=
 ⟨List.mem_of_find?_eq_some h,by have:=List.find?_some h;simpa [cM] using this⟩
theorem jM {L:List Lf} (z:L.Pairwise fun a b=>a.backend<b.backend) {x:Lf} (h:x∈L):dJ L x.backend=some x:=by
 induction L with
 | nil=>simp at h
 | cons a L ih=>
  rw [List.pairwise_cons] at z;unfold dJ;by_cases ha:a.backend=x.backend
  ·rw [List.find?_cons_of_pos (by simp [cM,ha])];rcases List.mem_cons.1 h with rfl|h
   ·rfl
   ·exact absurd (z.1 x h) (by omega)
  ·rw [List.find?_cons_of_neg (by simp [cM,ha])];rcases List.mem_cons.1 h with rfl|h
   ·exact absurd rfl ha
   ·exact ih z.2 h
theorem qM {L:List Lf} (h:L.Pairwise fun a b=>a.backend<b.backend) {x:Lf} (z:x∈L):i8 L x.backend=x.state:=by
 unfold i8;rw [jM h z]
 rfl
theorem mR {L:List Lf} {b:Int} {s:Int} (h:i8 L b=s) (z:s≠0):∃ x∈L,x.backend=b/\x.state=s:=by
 unfold i8 at h
 cases hl:dJ L b with
 | none=>rw [hl] at h;exact absurd h.symm z
 | some x=>rw [hl] at h;exact ⟨x,(eV hl).1,(eV hl).2,h⟩
def dQ (L:List Lf):List Nat:=(List.range 12).map fun b=>match dJ L (b:Nat) with
 | some x=>if x.state=2 then x.weight.toNat else 0
 | none=>0
theorem cI (L:List Lf):(dQ L).length=12:=by simp [dQ]
theorem ft (L:List Lf) {b:Nat} (h:b<12):(dQ L).getD b 0=match dJ L (b:Nat) with
 | some x=>if x.state=2 then x.weight.toNat else 0
 | none=>0:=by
 rw [aQ (by rw [cI];exact h)]
 simp [dQ]
theorem Bj {L:List Lf} {R:List Rq} (h:bJ L R) (b:Nat):(dQ L).getD b 0<=8:=by
 by_cases hb:b<12
 ·rw [ft L hb]
  cases hl:dJ L (b:Nat) with
  | none=>simp
  | some x=>
   have:=(eZ h (eV hl).1).2.2.2.1;simp only
   split<;>omega
 ·exact Q115
theorem IG (X Y:List Sp) (b:Nat):kr (X++Y) b=kr X b+kr Y b:=List.countP_append
theorem Cq (c n b:Nat):kr (dh c n) b=if c=b then 4*n else 0:=by
 unfold kr;by_cases h:c=b
 ·subst h;rw [if_pos rfl,List.countP_eq_length.2 (fun E z=>by rw [gS z];simp),eN]
 ·rw [if_neg h,List.countP_eq_zero.2 (fun E z=>by rw [gS z];simp;omega)]
theorem wV (ws:List Nat) (b:Nat):∀ k,kr (dm ws k) b=if b<k then 4*ws.getD b 0 else 0
 | 0=>by simp [dm,kr]
 | k+1=>by
  rw [dL,IG,wV ws b k,Cq];by_cases h:k=b
  ·subst h;simp
  ·rw [if_neg h];by_cases h2:b<k
   ·rw [if_pos h2,if_pos (by omega)]
    rfl
   ·rw [if_neg h2,if_neg (by omega)]
theorem wW (ws:List Nat) {b:Nat} (h:b<12):kr (bR ws) b=4*ws.getD b 0:=by
 have e:kr (bR ws) b=kr (dm ws 12) b:=(fq _).countP_eq _;rw [e,wV,if_pos h]
theorem iM {ws:List Nat} (z:ws.length=12):gx (bR ws)=ws:=by
 refine List.ext_getElem (by simp [gx,z]) fun J E I=>?_;have h:=kY (bR ws) (b:=J) (by omega);rw [aQ E,wW ws (by omega),aQ I] at h;rw [h];omega
theorem td {ws:List Nat}:∀ {k:Nat} {s:Sp},s∈dm ws k->∃ b,b<k/\s.backend=(b:Int)
 | 0,s,h=>by simp [dm] at h
 | k+1,s,h=>by
  rw [dL] at h;rcases List.mem_append.1 h with h|h
  ·obtain ⟨b,E,z⟩:=td h;exact ⟨b,by omega,z⟩
  ·exact ⟨k,by omega,gS h⟩
theorem qU {ws:List Nat} (z:ws.length=12) (E:∀ b,ws.getD b 0<=8):RgMay (bR ws):=by
 refine ⟨fun K I=>?_,fun b h=>?_,by rw [iM z]⟩
 ·obtain ⟨b,h,J⟩:=td ((fq _).mem_iff.1 I);omega
 ·rw [wW ws h];have:=E b;omega
def o9 (f:Fl):Tm:=⟨f.due,f.slot⟩
def ez (now:Int) (F:List Fl):List Tm:=(F.filter fun f=>decide (now<f.due)).map o9
structure KI (X:Wd) (f:Fl):Prop where
 s0:0<=f.slot
 s1:f.slot<X.tab.length
 sl:X.tab.getD f.slot.toNat Sl.zero=⟨f.gen,true,f.key,f.backend⟩
 r0:0<=f.retries
 r1:f.retries<=X.cf.retries
 st:i8 X.lives f.backend=2\/i8 X.lives f.backend=3
 d0:X.now<=f.due
 d1:f.due<=X.now+500
structure GwMay (X:Wd):Prop where
 cf:jC X.cf
 n0:0<=X.now
 n1:X.now<=1099511626776
 tb:dR X.tab
 tl:(X.tab.length:Int)=X.cf.flows
 bk:bJ X.lives X.reqs
 hl:X.health.length=12
 ht:∀ i,i<12->gv X.cf.ww X.cf.wf X.cf.wh (X.health.getD i Ht.zero).marks.length (X.health.getD i Ht.zero).out (X.health.getD i Ht.zero).until_ (X.health.getD i Ht.zero).times X.now 0
 ho:∀ i,i<12->(X.health.getD i Ht.zero).out=true->X.now<(X.health.getD i Ht.zero).until_
 t0:0<=X.tok
 t1:X.tok<=X.cf.bb*X.cf.bd
 rg:X.ring=bR (dQ X.lives)
 wn:X.wnow=X.now
 wl:X.lists=bN X.now (ez X.now X.flows)
 so:X.flows.Pairwise fun a b=>a.slot<b.slot
 fl:∀ f∈X.flows,KI X f
 us:∀ s,s<X.tab.length->(X.tab.getD s Sl.zero).used=true->∃ f∈X.flows,f.slot=s
 dr:∀ x∈X.lives,x.state=3->∃ f∈X.flows,f.backend=x.backend
 si:∀ x∈X.lives,x.since<=X.now
variable {X:Wd}
theorem GwMay.note (h:GwMay X):vR X:=⟨h.bk,h.hl,h.ht,by have:=h.cf.1.2.2;omega,by have:=h.cf.1.2.2;omega⟩
theorem GwMay.ring (h:GwMay X):RgMay X.ring:=by rw [h.rg];exact qU (cI _) (Bj h.bk)
theorem GwMay.len (h:GwMay X):X.flows.length<=40:=by
 have K:(X.flows.map fun z=>z.slot.toNat).Nodup:=by
  exact Q102
 have U:∀ E∈X.flows.map (fun z=>z.slot.toNat),E<X.tab.length:=by
  intro E I;obtain ⟨z,J,rfl⟩:=LH.1 I;have h1:=(h.fl z J).s0;have h2:=(h.fl z J).s1;omega
 have:=List.Nodup.length_le_of_subset K (l₂:=List.range X.tab.length) (fun E I=>List.mem_range.2 (U E I));have W:=h.tb.2.1;simp at this;omega
theorem GwMay.tms (h:GwMay X):(∀ t∈ez X.now X.flows,dN t X.now)/\(gR (ez X.now X.flows)).Nodup:=by
 constructor
 ·intro t K;obtain ⟨I,E,rfl⟩:=LH.1 K;obtain ⟨E,J⟩:=List.mem_filter.1 E;have z:=h.fl I E;have Y:=z.s0;have Z:=z.s1;have h4:=z.d1;have h5:=h.n1;have h6:=h.tb.2.1;simp at J;unfold dN o9;simp only;omega
 ·unfold gR ez;rw [List.map_map,List.nodup_iff_pairwise_ne,List.pairwise_map];refine (h.so.filter _).imp fun {U W} a0=>?_;simp [o9];omega
theorem GwMay.wh (h:GwMay X):WhMay X.now X.lists:=by
 rw [h.wl];exact (qF h.n0 (by have:=h.n1;omega) h.tms.1 h.tms.2).1
theorem GwMay.whp (h:GwMay X):X.lists.flatten.Perm (ez X.now X.flows):=by
 rw [h.wl];exact (qF h.n0 (by have:=h.n1;omega) h.tms.1 h.tms.2).2
theorem oB {T:List Sl} (z:dR T) {i:Nat} (h:i<T.length):dB (T.getD i Sl.zero):=by rw [aQ h];exact z.2.2 _ (Lp h)
theorem GwMay.num (I:GwMay X) {f:Fl} (U:f∈X.flows):∃ s:Nat,f.slot=s/\s<X.tab.length/\X.tab.getD s Sl.zero=⟨f.gen,true,f.key,f.backend⟩/\0<=f.gen/\f.gen<=1048575/\0<=f.key/\f.key<=4294967295/\0<=f.backend/\f.backend<=11:=by
 have h:=I.fl f U;obtain ⟨s,J⟩:=Lr h.s0
 have K:s<X.tab.length:=by have:=h.s1;omega
 have z:=h.sl;rw [J,Lm] at z;have E:=oB I.tb K;rw [z] at E;simp [dB] at E;exact ⟨s,J,K,z,E⟩
theorem GwMay.get (z:GwMay X) {f:Fl} (E:f∈X.flows):oY X.tab f.slot f.gen ⟨f.gen,true,f.key,f.backend⟩ 0:=by
 obtain ⟨K,I,J,h,_⟩:=z.num E;exact Or.inr (Or.inr ⟨z.tb,K,J,I,Or.inl ⟨by rw [h],by rw [h],h.symm,rfl⟩⟩)
theorem GwMay.drop (h:GwMay X) {f:Fl} (z:f∈X.flows):wB X.tab f.slot f.gen (eQ X.tab f) 0:=by
 obtain ⟨U,E,K,W,I,J,_⟩:=h.num z;exact ⟨_,0,h.get z,Or.inr ⟨rfl,U,K,E,⟨I,J⟩,by unfold eQ;rw [E,Lm],rfl⟩⟩
theorem GwMay.move (h:GwMay X) {f:Fl} (z:f∈X.flows) {b:Int} (I:0<=b) (J:b<=11):vT X.tab f.slot f.gen b (X.tab.set f.slot.toNat ⟨f.gen,true,f.key,b⟩) 0:=by
 obtain ⟨U,E,K,W,Y,Z,_⟩:=h.num z;exact ⟨_,0,h.get z,Or.inr (Or.inr ⟨rfl,I,J,U,K,E,rfl,by rw [E,Lm],rfl⟩)⟩
theorem qe {T:List Sl} (h:dR T) (i:Nat) {s:Sl} (E:dB s):dR (T.set i s):=by
 refine ⟨by simpa using h.1,by simpa using h.2.1,fun I z=>?_⟩;rcases List.mem_or_eq_of_mem_set z with z|rfl
 ·exact h.2.2 I z
 ·exact E
theorem GwMay.tabd (h:GwMay X) {f:Fl} (z:f∈X.flows):dR (eQ X.tab f):=by
 obtain ⟨W,K,U,E,I,J,_⟩:=h.num z;exact qe h.tb _ (by simp [dB];omega)
theorem wJ (L:List Sp):(ep L).Nodup:=by
 refine qP (p:=fun L=>(ep L).Nodup) ?_ ?_ L
 ·simp [ep]
 ·intro L J E;rw [iK];unfold ku;by_cases h:J.backend∈ep L
  ·rw [if_pos h];exact E
  ·rw [if_neg h,List.nodup_append];refine ⟨E,by simp,?_⟩;intro K I U z;simp at z;rintro rfl;exact h (z ▸ I)
theorem ze (X:List Sp) (a b:Int):b∈gZ X a↔∃ s∈X,s.backend=b:=by
 unfold gZ;rw [Cg];constructor
 ·rintro ⟨s,z,E⟩;rcases List.mem_append.1 z with z|z
  ·exact ⟨s,(List.mem_filter.1 z).1,E⟩
  ·exact ⟨s,(List.mem_filter.1 z).1,E⟩
 ·rintro ⟨s,z,E⟩;by_cases h:a<=s.hash
  ·exact ⟨s,List.mem_append.2 (Or.inl (List.mem_filter.2 ⟨z,by simpa using h⟩)),E⟩
  ·exact ⟨s,List.mem_append.2 (Or.inr (List.mem_filter.2 ⟨z,by simp;omega⟩)),E⟩
theorem walk_len12 {X:List Sp} (U:RgMay X) (a:Int):(gZ X a).length<=12:=by
 have h:∀ z∈gZ X a,0<=z/\z<=11:=by
  intro z h;obtain ⟨Z,Y,rfl⟩:=(ze X a z).1 h;exact U.1 Z Y
 have W:((gZ X a).map Int.toNat).Nodup:=by
  rw [List.nodup_iff_pairwise_ne,List.pairwise_map];refine (List.nodup_iff_pairwise_ne.1 (wJ _)).imp_of_mem fun {K J} E I a0=>?_;have h1:=h K E;have h2:=h J I;omega
 have:=List.Nodup.length_le_of_subset W (l₂:=List.range 12) (fun K E=>by
  obtain ⟨J,I,rfl⟩:=LH.1 E;have:=h J I
  exact List.mem_range.2 (by omega))
 simpa using this
theorem j7 {T:List Sl} {b:Int} {E:Hd}:∀ {n:Nat},E∈j8 T b n↔∃ k:Nat,k<n/\(T.getD k Sl.zero).used=true/\(T.getD k Sl.zero).backend=b/\E=⟨k,(T.getD k Sl.zero).gen⟩
 | 0=>by simp [j8]
 | n+1=>by
  simp only [j8,List.mem_append,j7 (n:=n)];constructor
  ·rintro (⟨k,z,h⟩|z)
   ·exact ⟨k,by omega,h⟩
   ·split at z
    ·rename_i h
     simp at z;exact ⟨n,by omega,h.1,h.2,z⟩
    ·simp at z
  ·rintro ⟨k,z,h,I,J⟩;rcases (show k<n\/k=n by omega) with K|rfl
   ·exact Or.inl ⟨k,K,h,I,J⟩
   ·right;rw [if_pos ⟨h,I⟩];simpa using J
theorem Ew {w d m:Int} (E:1<=w) (I:0<=d) (J:0<=m):1<=ip w d m/\ip w d m<=w:=by
 unfold ip;by_cases h:m<=d
 ·rw [if_pos h];omega
 ·rw [if_neg h];have z:0<m:=by omega
  have K:w*d / m<=w:=by
   have:w*d<=w*m:=Int.mul_le_mul_of_nonneg_left (by omega) (by omega);have:=Int.ediv_le_ediv z this
   rwa [Int.mul_ediv_cancel _ (by omega)] at this
  omega
theorem Jz (T:List Sl) {b:Nat} (h:b<12) (n:Nat):(il T n).getD b 0=(j8 T b n).length:=by
 simp only [List.getD,kQ T n b h,LI]
variable {X:Wd}
theorem GwMay.load (h:GwMay X) {but:Int} (E:but<X.tab.length):vU X but:=by
 have I:=h.cf.1.1;exact ⟨h.bk,h.hl,h.tb,by omega,by omega,by have:=h.n1;omega,fun J z=>h.si _ (by rw [aQ z];exact Lp z),E⟩
def sA (X:Wd) (but:Int):Prop:=but=-1\/∃ s:Nat,but=s/\s<X.tab.length/\(X.tab.getD s Sl.zero).used=true/\X.flows≠[]
theorem Jb (I:GwMay X) {but:Int} (J:sA X but) {b:Int} (E:0<=b) (W:b<=11):0<=rL X but b/\rL X but b<=40:=by
 obtain ⟨h,rfl⟩:=Lr E;unfold rL;rw [Lm,Jz _ (by omega)];have Y:=I.tb.2.1;have Z:=lc X.tab h X.tab.length;by_cases ho:zD X but h=true
 ·rw [if_pos ho]
  have:0<(j8 X.tab h X.tab.length).length:=by
   rcases J with rfl|⟨z,rfl,K,U,_⟩
   ·simp [zD] at ho
   ·simp [zD] at ho;exact List.length_pos_of_mem (a:=⟨z,(X.tab.getD z Sl.zero).gen⟩) (j7.2 ⟨z,K,U,by simpa [List.getD] using ho,rfl⟩)
  omega
 ·rw [if_neg ho];omega
theorem Ja (h:GwMay X) {x:Lf} (E:x∈X.lives):0<=rK X x/\rK X x<=x.weight:=by
 have z:=eZ h.bk E;have I:=h.si x E;have J:=h.cf.1.1;unfold rK
 split
 ·have:=z.2.2.1;omega
 ·have:=Ew (w:=x.weight) (d:=X.now - x.since) (m:=X.cf.warm) z.2.2.1 (by omega) (by omega);omega
theorem zP (h:GwMay X) (but:Int):(fu X but).Pairwise fun a b=>a.backend<b.backend:=by
 unfold fu;rw [List.pairwise_map];exact (cU h.bk).filter _
theorem Bn {but:Int} {y:Ld}:y∈fu X but↔∃ x∈X.lives,x.state=2/\xO X but x=y:=by
 unfold fu;rw [LH];constructor
 ·rintro ⟨x,I,h⟩;obtain ⟨z,E⟩:=List.mem_filter.1 I;exact ⟨x,z,by simpa using E,h⟩
 ·rintro ⟨x,z,E,h⟩;exact ⟨x,List.mem_filter.2 ⟨z,by simpa using E⟩,h⟩
theorem J7 (z:GwMay X) {but:Int} (hb:sA X but):eJ (fu X but):=by
 have hs:=zP z but;refine ⟨?_,fun h I=>?_⟩
 ·unfold fu;rw [Lh];exact Lz (List.length_filter_le _ _) z.bk.1
 ·have hm:(fu X but).getD h Ld.zero∈fu X but:=by rw [aQ I];exact Lp I
  obtain ⟨x,Z,_,J⟩:=Bn.1 hm;have E:=eZ z.bk Z;have Y:=Jb z hb E.1 E.2.1;have hw:=Ja z Z;have h8:=E.2.2.2.1
  have K:((fu X but).getD h Ld.zero).backend=x.backend:=by rw [<- J];rfl
  have W:((fu X but).getD h Ld.zero).weight=rK X x:=by rw [<- J];rfl
  have U:((fu X but).getD h Ld.zero).flows=rL X but x.backend:=by rw [<- J];rfl
  refine ⟨?_,by rw [K];exact E.2.1,by rw [W];omega,by rw [W];omega,by rw [U];exact Y.1,by rw [U];exact Y.2⟩;unfold ju;by_cases hi0:h=0
  ·rw [if_pos hi0,K];have:=E.1;omega
  ·rw [if_neg hi0,aQ (show h - 1<(fu X but).length by omega),aQ I];exact List.pairwise_iff_getElem.1 hs (h - 1) h (by omega) I (by omega)
theorem GwMay.fac (h:GwMay X) {but:Int} (E:sA X but):gO X.cf.num X.cf.den (IK X but):=by
 have J:=h.cf.1.2.1;have K:=h.len
 have z:0<=IK X but/\IK X but<=40:=by
  unfold IK;rcases E with rfl|⟨U,rfl,_,_,I⟩
  ·rw [if_neg (by omega)];omega
  ·have:=List.length_pos_iff.2 I;rw [if_pos (by omega)];omega
 exact ⟨by omega,by omega,by omega,z.1,z.2⟩
theorem GwMay.pick (h:GwMay X) (key:Nat) {but:Int} (z:sA X but):vV X key but (dG X key but).1 (dG X key but).2:=by
 have E:=h.cf.1.2.2;exact CB (J7 h z) (h.fac z) (by omega) (by omega) (walk_len12 h.ring _)
theorem GwMay.butF (E:GwMay X) {f:Fl} (h:f∈X.flows):sA X f.slot:=by
 obtain ⟨U,J,K,I,_⟩:=E.num h;exact Or.inr ⟨U,J,K,by rw [I],fun z=>by rw [z] at h;simp at h⟩
theorem uT (K:GwMay X) {key:Nat} {but:Int} (W:sA X but) (U:(dG X key but).2=0):∃ x∈X.lives,x.state=2/\x.backend=(dG X key but).1:=by
 have J:=K.pick key W;rw [U] at J
 have key:∀ h,h<(fu X but).length->∃ x∈X.lives,x.state=2/\x.backend=((fu X but).getD h Ld.zero).backend:=by
  intro h z
  have Y:(fu X but).getD h Ld.zero∈fu X but:=by rw [aQ z];exact Lp z
  obtain ⟨x,hx,Z,E⟩:=Bn.1 Y;exact ⟨x,hx,Z,by rw [<- E];rfl⟩
 rcases J with ⟨_,_,I,_⟩|⟨_,_,_,_,I⟩|⟨_,_,_,_,_,_,_,I⟩|⟨_,_,_,_,_,_,⟨h,z,_,E,_⟩|⟨_,h,z,_,E,_⟩|⟨_,_,_,I⟩⟩
 ·exact absurd rfl I
 ·omega
 ·omega
 ·rw [E];exact key h z
 ·rw [E];exact key h z
 ·omega
theorem Bd (h:GwMay X) {key:Nat} {but:Int} (I:sA X but) (E:(dG X key but).2=0):0<=(dG X key but).1/\(dG X key but).1<=11:=by
 obtain ⟨K,J,_,z⟩:=uT h I E;have:=eZ h.bk J;rw [<- z];exact ⟨this.1,this.2.1⟩
theorem cR {α:Type} {L:List α} {i j:Nat} {x d:α} (z:i<L.length):(L.set i x).getD j d=if i=j then x else L.getD j d:=by
 simp only [List.getD,List.getElem?_set,if_pos z];by_cases h:i=j<;>simp [h]
theorem zM (M:List Bool) (f:Bool) {a:Int} (h:0<=a):((gJ M f a).length:Int)<=a:=by
 unfold gJ;rw [List.length_drop,Ll];simp;omega
theorem Gj {c t:Int} (h:1<=c):1<=nz c t/\nz c t<=500:=by
 unfold nz
 have z:(1:Int)<=2 ^ t.toNat:=by
  have:(0:Int)<2 ^ t.toNat:=Int.pow_pos (by omega);omega
 have E:1*1<=c*2 ^ t.toNat:=Int.mul_le_mul h z (by omega) (by omega);omega
theorem Fe {X:Wd} (I:GwMay X) {b:Nat} (W:b<12) (h z:Bool) :
  gv X.cf.ww X.cf.wf X.cf.wh (j9 X.cf (X.health.getD b Ht.zero) h X.now z).marks.length (j9 X.cf (X.health.getD b Ht.zero) h X.now z).out (j9 X.cf (X.health.getD b Ht.zero) h X.now z).until_ (j9 X.cf (X.health.getD b Ht.zero) h X.now z).times X.now 0/\
  ((j9 X.cf (X.health.getD b Ht.zero) h X.now z).out=true->X.now<(j9 X.cf (X.health.getD b Ht.zero) h X.now z).until_):=by
 obtain ⟨E,J,K,h4⟩:=fJ (I.ht b W)
 have ho:=I.ho b W
 have hn:=I.n1
 have hw:=E.2.2.2.2.1
 have hh:=Gj (t:=(X.health.getD b Ht.zero).times) hw
 have U:0<=X.cf.ww:=by have:=E.1;omega
 have hl:=zM (X.health.getD b Ht.zero).marks h U
 obtain ⟨a1,Y,Z,a4,a5,a6⟩:=h4
 unfold j9
 by_cases hc:(X.health.getD b Ht.zero).out=false/\z=true/\X.cf.wf<=ja (gJ (X.health.getD b Ht.zero).marks h X.cf.ww)
 ·rw [if_pos hc];refine ⟨Or.inr (Or.inr (Or.inr ⟨E,J,K,⟨by simpa using U,?_,?_,?_,?_,by simp⟩,rfl⟩)),fun _=>by simp only;omega⟩<;>simp only<;>omega
 ·rw [if_neg hc];exact ⟨Or.inr (Or.inr (Or.inr ⟨E,J,K,⟨hl,Y,Z,a4,a5,a6⟩,rfl⟩)),ho⟩
theorem GwMay.noted {X:Wd} (h:GwMay X) {b:Nat} (J:b<12) (I:Bool):GwMay (ce X b I):=by
 have K:b<X.health.length:=by rw [h.hl];exact J
 have U:=Fe h J I (DO X && i8 X.lives b == 2);refine { cf:=h.cf,n0:=h.n0,n1:=h.n1,tb:=h.tb,tl:=h.tl,bk:=h.bk,hl:=?_,ht:=?_,ho:=?_,t0:=h.t0,t1:=h.t1,rg:=h.rg,wn:=h.wn,wl:=h.wl,so:=h.so,fl:=fun W Y=>?_,us:=h.us,dr:=h.dr,si:=h.si }
 ·simp only [ce,Lq];exact h.hl
 ·intro z E;simp only [ce];rw [cR K];by_cases e:b=z
  ·rw [if_pos e];exact U.1
  ·rw [if_neg e];exact h.ht z E
 ·intro z E;simp only [ce];rw [cR K];by_cases e:b=z
  ·rw [if_pos e];exact U.2
  ·rw [if_neg e];exact h.ho z E
 ·have:=h.fl W Y;exact ⟨this.s0,this.s1,this.sl,this.r0,this.r1,this.st,this.d0,this.d1⟩
structure GwBut (X:Wd) (b:Int):Prop where
 cf:jC X.cf
 n0:0<=X.now
 n1:X.now<=1099511626776
 tb:dR X.tab
 tl:(X.tab.length:Int)=X.cf.flows
 bk:bJ X.lives X.reqs
 hl:X.health.length=12
 ht:∀ i,i<12->gv X.cf.ww X.cf.wf X.cf.wh (X.health.getD i Ht.zero).marks.length (X.health.getD i Ht.zero).out (X.health.getD i Ht.zero).until_ (X.health.getD i Ht.zero).times X.now 0
 ho:∀ i,i<12->(X.health.getD i Ht.zero).out=true->X.now<(X.health.getD i Ht.zero).until_
 t0:0<=X.tok
 t1:X.tok<=X.cf.bb*X.cf.bd
 rg:X.ring=bR (dQ X.lives)
 wn:X.wnow=X.now
 wl:X.lists=bN X.now (ez X.now X.flows)
 so:X.flows.Pairwise fun a b=>a.slot<b.slot
 fl:∀ f∈X.flows,KI X f
 us:∀ s,s<X.tab.length->(X.tab.getD s Sl.zero).used=true->∃ f∈X.flows,f.slot=s
 dr:∀ x∈X.lives,x.state=3->x.backend≠b->∃ f∈X.flows,f.backend=x.backend
 si:∀ x∈X.lives,x.since<=X.now
theorem GwBut.all {X:Wd} {b:Int} (h:GwBut X b) (I:∀ x∈X.lives,x.state=3->x.backend=b->∃ f∈X.flows,f.backend=x.backend):GwMay X:=by
 have J:∀ x∈X.lives,x.state=3->∃ f∈X.flows,f.backend=x.backend:=fun x E z=>by
  by_cases e:x.backend=b
  ·exact I x E z e
  ·exact h.dr x E z e
 exact { cf:=h.cf,n0:=h.n0,n1:=h.n1,tb:=h.tb,tl:=h.tl,bk:=h.bk,hl:=h.hl,ht:=h.ht,ho:=h.ho,t0:=h.t0,t1:=h.t1,rg:=h.rg,wn:=h.wn,wl:=h.wl,so:=h.so,fl:=h.fl,us:=h.us,si:=h.si,dr:=J }
theorem gK (a:Lf) (L:List Lf) (b:Int):dJ (a :: L) b=if a.backend=b then some a else dJ L b:=by
 unfold dJ;by_cases h:a.backend=b
 ·rw [if_pos h,List.find?_cons_of_pos (by simp [cM,h])]
 ·rw [if_neg h,List.find?_cons_of_neg (by simp [cM,h])]
theorem iD {y:Lf} {b:Int}:∀ {L:List Lf} {i:Nat},L.Pairwise (fun a b=>a.backend<b.backend)->i<L.length->y.backend=(L.getD i Lf.zero).backend->dJ (L.set i y) b=if y.backend=b then some y else dJ L b
 | [],i,_,hi,_=>by simp at hi
 | a :: L,0,_,_,hy=>by
  have E:y.backend=a.backend:=hy;rw [List.set_cons_zero,gK,gK];by_cases h:y.backend=b
  ·rw [if_pos h,if_pos h]
  ·rw [if_neg h,if_neg h,if_neg (by omega)]
 | a :: L,i+1,hs,hi,hy=>by
  rw [List.pairwise_cons] at hs;have z:i<L.length:=by simpa using hi
  have E:y.backend=(L.getD i Lf.zero).backend:=by simpa using hy
  have I:a.backend<y.backend:=by rw [E,aQ z];exact hs.1 _ (Lp z)
  rw [List.set_cons_succ,gK,gK,iD hs.2 z E];by_cases h:a.backend=b
  ·rw [if_pos h,if_neg (by omega),if_pos h]
  ·rw [if_neg h,if_neg h]
theorem oQ {L:List Lf} {R:List Rq} (K:bJ L R) {i:Nat} (I:i<L.length) {y:Lf} (hy:eG y) (hb:y.backend=(L.getD i Lf.zero).backend):bJ (L.set i y) R:=by
 obtain ⟨U,W,Y,Z,h5⟩:=K
 have E:∀ h,((L.set i y).getD h Lf.zero).backend=(L.getD h Lf.zero).backend:=by
  intro h;rw [cR I];by_cases e:i=h
  ·subst e;rw [if_pos rfl,hb]
  ·rw [if_neg e]
 refine ⟨by simpa using U,W,fun h hj=>?_,Z,h5⟩;have a0:h<L.length:=by simpa using hj
 obtain ⟨J,z⟩:=Y h a0;refine ⟨?_,?_⟩
 ·rw [cR I];by_cases e:i=h
  ·rw [if_pos e];exact hy
  ·rw [if_neg e];exact J
 ·rw [E];unfold nk at z ⊢;by_cases e:h=0
  ·rw [if_pos e] at z ⊢;exact z
  ·rw [if_neg e] at z ⊢;rw [E];exact z
theorem xL {L:List Lf} (E:L.Pairwise fun a b=>a.backend<b.backend) {i:Nat} (h:i<L.length) {y:Lf} (z:y.backend=(L.getD i Lf.zero).backend) (I:y.state≠2) (J:(L.getD i Lf.zero).state≠2):dQ (L.set i y)=dQ L:=by
 unfold dQ;refine List.map_congr_left fun b _=>?_;rw [iD E h z];by_cases e:y.backend=(b:Int)
 ·have:dJ L (b:Nat)=some (L.getD i Lf.zero):=by
   rw [<- e,z];exact jM E (by rw [aQ h];exact Lp h)
  rw [if_pos e,this];simp only;rw [if_neg I,if_neg J]
 ·rw [if_neg e]
theorem no_of {X:Wd} {b c:Int} (E:GwBut X c) (J:j8 X.tab b X.tab.length=[]) {f:Fl} (I:f∈X.flows):f.backend≠b:=by
 intro z;have h:=E.fl f I;have K:=h.s0;have U:=h.s1;have:(⟨f.slot.toNat,(X.tab.getD f.slot.toNat Sl.zero).gen⟩:Hd)∈j8 X.tab b X.tab.length:=j7.2 ⟨f.slot.toNat,by omega,by rw [h.sl],by rw [h.sl];exact z,rfl⟩;rw [J] at this;simp at this
theorem Iy {X:Wd} {b c:Int} (h:GwBut X c) (E:j8 X.tab b X.tab.length≠[]):∃ f∈X.flows,f.backend=b:=by
 obtain ⟨U,J⟩:=List.exists_mem_of_ne_nil _ E;obtain ⟨K,z,I,hb,_⟩:=j7.1 J;obtain ⟨f,hf,hs⟩:=h.us K z I;refine ⟨f,hf,?_⟩;exact Q151
theorem mj {X:Wd} {b:Int} (h:GwBut X b):GwMay (cj X b).1:=by
 have K:=cU h.bk;unfold cj
 cases hl:dJ X.lives b with
 | none=>
  refine h.all fun x hx _ E=>?_;have:=jM K hx;rw [E,hl] at this
  cases this
 | some x=>
  obtain ⟨hx,am⟩:=eV hl
  have same:∀ y∈X.lives,y.backend=b->y=x:=by
   intro y I E;have:=jM K I;rw [E,hl] at this;exact (Option.some.inj this).symm
  simp only;by_cases hc:x.state=3/\j8 X.tab b X.tab.length=[]
  ·rw [if_pos hc];obtain ⟨i,W,J⟩:=rH hx Lf.zero
   have a0:kt X.lives b=X.lives.set i x.done:=by
    rcases bM (cM b) X.lives Lf.zero with ⟨z,_⟩|⟨j,hj,z,_⟩
    ·rw [(fP X.lives b).1 z] at hl
     cases hl
    ·have h2:=(fP X.lives b).2 j z hj;rw [hl] at h2;have ab:x=X.lives.getD j Lf.zero:=Option.some.inj h2
     have af:i=j:=by
      rw [List.pairwise_iff_getElem] at K;rw [aQ W] at J;rw [aQ hj] at ab;rcases Nat.lt_trichotomy i j with U|U|U
      ·have:=K i j W hj U;rw [J,<- ab] at this;omega
      ·exact U
      ·have:=K j i hj W U;rw [J,<- ab] at this;omega
     rw [yo z,<- af,J]
   have Z:x.done.backend=(X.lives.getD i Lf.zero).backend:=by rw [J];rfl
   have an:eG x.done:=by
    have:=eZ h.bk hx;obtain ⟨a1,a2,a3,a4,a5,a6,a7,a8,a9,ad,_⟩:=this;exact ⟨a1,a2,a3,a4,a5,a6,a7,a8,a9,ad,Or.inr (Or.inr (Or.inr rfl))⟩
   have ac:=oQ h.bk W an Z;have al:=cU ac;have ag:=xL K W Z (y:=x.done) (by decide:(4:Int)≠2) (by rw [J,hc.1];decide);refine { cf:=h.cf,n0:=h.n0,n1:=h.n1,tb:=h.tb,tl:=h.tl,bk:=?_,hl:=h.hl,ht:=h.ht,ho:=h.ho,t0:=h.t0,t1:=h.t1,rg:=?_,wn:=h.wn,wl:=h.wl,so:=h.so,fl:=fun f hf=>?_,us:=h.us,dr:=?_,si:=?_ }
   ·simp only;rw [a0];exact ac
   ·simp only;rw [a0,ag];exact h.rg
   ·have z:=h.fl f hf;have ak:=no_of h hc.2 hf;refine ⟨z.s0,z.s1,z.sl,z.r0,z.r1,?_,z.d0,z.d1⟩
    have E:i8 (kt X.lives b) f.backend=i8 X.lives f.backend:=by
     unfold i8;rw [a0,iD K W Z,if_neg (by rw [Z,J,am];exact fun E=>ak E.symm)]
    simp only;rw [E];exact z.st
   ·intro y I Y;simp only at I;rw [a0] at I;rcases List.mem_or_eq_of_mem_set I with aa|rfl
    ·refine h.dr y aa Y fun E=>?_;have:=same y aa E;have h4:=jM al I;rw [iD K W Z,if_pos (by rw [Z,J,this])] at h4;have h5:=Option.some.inj h4;rw [<- h5] at Y;exact absurd Y (by decide:(4:Int)≠3)
    ·exact absurd Y (by decide:(4:Int)≠3)
   ·intro y I;simp only at I;rw [a0] at I;rcases List.mem_or_eq_of_mem_set I with aa|rfl
    ·exact h.si y aa
    ·exact h.si x hx
  ·rw [if_neg hc];refine h.all fun y I Y E=>?_;obtain rfl:=same y I E;rw [E];exact Iy h fun U=>hc ⟨Y,U⟩
theorem yD {X:Wd} (h:GwMay X) {L':List Lf} {R':List Rq} (b:Int) (I:bJ L' R') (U:∀ f∈X.flows,i8 L' f.backend=2\/i8 L' f.backend=3) (J:∀ x∈L',x.state=3->x.backend≠b->∃ f∈X.flows,f.backend=x.backend) (K:∀ x∈L',x.since<=X.now) :
  GwBut { X with lives:=L',reqs:=R',ring:=bR (dQ L') } b:=
 { cf:=h.cf,n0:=h.n0,n1:=h.n1,tb:=h.tb,tl:=h.tl,bk:=I,hl:=h.hl,ht:=h.ht,ho:=h.ho,t0:=h.t0,t1:=h.t1,rg:=rfl,wn:=h.wn,wl:=h.wl,so:=h.so,us:=h.us,dr:=J,si:=K,fl:=fun f E=>by
      have z:=h.fl f E
      exact ⟨z.s0,z.s1,z.sl,z.r0,z.r1,U f E,z.d0,z.d1⟩ }
theorem oP {X:Wd} (E:GwMay X) {L':List Lf} {R':List Rq} (U:bJ L' R') (W:dQ L'=dQ X.lives) (Z:∀ f∈X.flows,i8 L' f.backend=2\/i8 L' f.backend=3) (J:∀ x∈L',x.state=3->∃ f∈X.flows,f.backend=x.backend) (Y:∀ x∈L',x.since<=X.now) :
  GwMay { X with lives:=L',reqs:=R' }:=by
 have I:=(yD E (-1) U Z (fun x z h _=>J x z h) Y).all (fun x z h _=>J x z h)
 have K:({ X with lives:=L',reqs:=R',ring:=bR (dQ L') }:Wd)={ X with lives:=L',reqs:=R' }:=by rw [W,<- E.rg]
 rw [K] at I
 exact I
theorem GY {L:List Lf} {R:List Rq} (J:bJ L R) {q:Rq} (hq:fR q) (hn:aU (kq q.id) R=-1) (hl:R.length≠100):bJ L (R++[q]):=by
 obtain ⟨K,h2,U,W,E⟩:=J;refine ⟨K,by simp;omega,U,fun z h=>?_,?_⟩
 ·rcases List.mem_append.1 h with h|h
  ·exact W z h
  ·simp at h;subst h;exact hq
 ·unfold gU at E ⊢;rw [LG,List.nodup_append];refine ⟨E,by simp,fun a Z c I=>?_⟩;simp at I;subst I;rcases bM (kq q.id) R Rq.zero with ⟨_,Y⟩|⟨i,hi,he,_⟩
  ·obtain ⟨z,h,rfl⟩:=LH.1 Z;have:=Y z h;simpa [kq] using this
  ·omega
theorem wP {L:List Lf} (E:L.Pairwise fun a b=>a.backend<b.backend) {i:Nat} (z:i<L.length) {y:Lf} (h:y.backend=(L.getD i Lf.zero).backend) (b:Int):i8 (L.set i y) b=if y.backend=b then y.state else i8 L b:=by
 unfold i8;rw [iD E z h];by_cases e:y.backend=b
 ·rw [if_pos e,if_pos e]
  rfl
 ·rw [if_neg e,if_neg e]
theorem uG {L:List Lf} (J:L.Pairwise fun a b=>a.backend<b.backend) {i:Nat} (E:i<L.length) {y x:Lf} (K:y.backend=(L.getD i Lf.zero).backend) (W:x∈L.set i y):x=y\/(x∈L/\x.backend≠y.backend):=by
 rcases List.mem_iff_getElem.1 W with ⟨z,U,rfl⟩;rw [List.getElem_set];by_cases e:i=z
 ·rw [if_pos e];exact Or.inl rfl
 ·rw [if_neg e];have I:z<L.length:=by simpa using U
  refine Or.inr ⟨Lp I,?_⟩;rw [K,aQ E];rw [List.pairwise_iff_getElem] at J;rcases Nat.lt_trichotomy i z with h|h|h
  ·have:=J i z E I h;omega
  ·exact absurd h e
  ·have:=J z i I E h;omega
theorem xM {X:Wd} (h:GwMay X) {R':List Rq} (J:bJ X.lives R') {i:Nat} (hi:i<X.lives.length) {y:Lf} (hy:eG y) (hb:y.backend=(X.lives.getD i Lf.zero).backend)
  (Y:y.state=1\/y.state=4) (Z:(X.lives.getD i Lf.zero).state=1\/(X.lives.getD i Lf.zero).state=4) (hsi:y.since<=X.now):GwMay { X with lives:=X.lives.set i y,reqs:=R' }:=by
 have hs:=cU h.bk
 have U:X.lives.getD i Lf.zero∈X.lives:=by rw [aQ hi];exact Lp hi
 refine oP h (oQ J hi hy hb) (xL hs hi hb (by omega) (by omega)) (fun z K=>?_) (fun x hx E=>?_) (fun x hx=>?_)
 ·have W:=(h.fl z K).st;rw [wP hs hi hb];by_cases e:y.backend=z.backend
  ·have I:=qM hs U;rw [<- hb,e] at I;omega
  ·rw [if_neg e];exact W
 ·rcases uG hs hi hb hx with rfl|⟨hx,_⟩
  ·omega
  ·exact h.dr x hx E
 ·exact Q152
theorem Fo {X:Wd} (h:GwMay X) {R':List Rq} (J:bJ X.lives R') {i:Nat} (hi:i<X.lives.length) {y:Lf} (hy:eG y) (hb:y.backend=(X.lives.getD i Lf.zero).backend) (E:y.state=3) (hsi:y.since<=X.now) :
  GwBut { X with lives:=X.lives.set i y,reqs:=R',ring:=bR (dQ (X.lives.set i y)) } y.backend:=by
 have hs:=cU h.bk
 refine yD h _ (oQ J hi hy hb) (fun z K=>?_) (fun x hx I U=>?_) (fun x hx=>?_)
 ·have W:=(h.fl z K).st;rw [wP hs hi hb];by_cases e:y.backend=z.backend
  ·rw [if_pos e];exact Or.inr E
  ·rw [if_neg e];exact W
 ·rcases uG hs hi hb hx with rfl|⟨hx,_⟩
  ·exact absurd rfl U
  ·exact h.dr x hx I
 ·exact Q152
theorem Fn {X:Wd} (h:GwMay X) {i:Nat} (J:i<X.lives.length) {y:Lf} (z:y.backend=(X.lives.getD i Lf.zero).backend) (h1:y.state=3) (h2:(X.lives.getD i Lf.zero).state=2) :
  vQ X.ring y.backend (bR (dQ (X.lives.set i y))) 0:=by
 have hs:=cU h.bk
 have Z:X.lives.getD i Lf.zero∈X.lives:=by rw [aQ J];exact Lp J
 have K:=eZ h.bk Z
 obtain ⟨I,E⟩:=Lr K.1
 have U:I<12:=by have:=K.2.1;omega
 have a0:dJ X.lives (I:Nat)=some (X.lives.getD i Lf.zero):=by
  have:=jM hs Z;rw [E] at this;exact this
 refine Or.inr (Or.inr ⟨I,h.ring,by rw [z,E],U,Or.inr ⟨?_,?_,rfl⟩⟩)
 ·rw [h.rg,iM (cI _),ft _ U,a0];simp only;rw [if_pos h2];have:=K.2.2.1;omega
 ·rw [h.rg,iM (cI _)]
  congr 1
  refine List.ext_getElem (by simp [cI]) fun j W h4=>?_;have Y:j<12:=by simpa [cI] using W
  rw [<- aQ W 0,<- aQ h4 0,cR (by rw [cI];exact U),ft _ Y,ft _ Y,iD hs J z];by_cases e:I=j
  ·subst e;rw [if_pos (by rw [z,E]),if_pos rfl];simp only;rw [if_neg (by omega)]
  ·rw [if_neg (by rw [z,E];intro g;exact e (by omega)),if_neg e]
theorem xN {L:List Lf} {k:Nat} {y:Lf} (z:∀ x∈L,x.backend≠y.backend) (b:Int):dJ (eB L k y) b=if y.backend=b then some y else dJ L b:=by
 unfold eB dJ;rw [List.find?_append];by_cases e:y.backend=b
 ·rw [if_pos e]
  have h:(L.take k).find? (cM b)=none:=List.find?_eq_none.2 fun x E=>by
   have:=z x (List.mem_of_mem_take E);simp [cM];omega
  rw [h,List.find?_cons_of_pos (by simp [cM,e])]
  rfl
 ·rw [if_neg e,List.find?_cons_of_neg (by simp [cM,e]),<- List.find?_append,Lx]
theorem Kx {L:List Lf} {R:List Rq} (h:∀ x∈L,eG x) (I:L.Pairwise fun a b=>a.backend<b.backend) (W:R.length<=100) (Y:∀ x∈R,fR x) (Z:(gU R).Nodup):bJ L R:=by
 refine ⟨?_,W,fun z E=>?_,Y,Z⟩
 ·have hn:(L.map fun x=>x.backend.toNat).Nodup:=by
   rw [List.nodup_iff_pairwise_ne,List.pairwise_map];refine I.imp_of_mem fun {a b} ha hb a0=>?_;have:=(h a ha).1;have:=(h b hb).1;omega
  have:=List.Nodup.length_le_of_subset hn (l₂:=List.range 12) (fun x hx=>by
   obtain ⟨U,K,rfl⟩:=LH.1 hx;have:=(h U K).1;have:=(h U K).2.1
   rw [List.mem_range];omega)
  simpa using this
 ·have J:L.getD z Lf.zero∈L:=by rw [aQ E];exact Lp E
  refine ⟨h _ J,?_⟩;unfold nk;by_cases e:z=0
  ·rw [if_pos e];have:=(h _ J).1;omega
  ·rw [if_neg e,aQ E,aQ (by omega:z - 1<L.length)];exact List.pairwise_iff_getElem.1 I (z - 1) z (by omega) E (by omega)
end
end Go.Proofs.YtennppmadmgfoaaGreatDoor
