/- Texts of the row's proof. Conditions: none. -/
import Derived.Test.YtfliffgmeobclaaGreatK20
import Derived.Test.YtfliffgmeobclaaGreatK30
namespace Go.Proofs.YtfliffgmeobclaaGreat
set_option maxRecDepth 100000
set_option maxHeartbeats 8000000
section
open Go.RowKit
theorem Q3 {p:Prop} (h:p:=by
 have HG6:=Hu G6;have HFr6:=Hu (HFa.out.trans F6 HS1.out);have hs6:wa.heap.size≤w6.heap.size:=F6.size;have d0:w6.cell? ⟨w.heap.size+1,0,none⟩=some (.int .i64 f0):=ae HFb6.out 0;have d1:w6.cell? ⟨w.heap.size+1,1,none⟩=some (.int .i64 f1):=ae HFb6.out 1;have d3:w6.cell? ⟨w.heap.size+1,3,none⟩=some (.int .i64 f3):=ae HFb6.out 3;have u1:w6.cell? ⟨w.heap.size,1,none⟩=some (.int .i64 o1):=ae HOb6.out 1;have u2:w6.cell? ⟨w.heap.size,2,none⟩=some (.int .i64 o2):=ae HOb6.out 2;have u3:w6.cell? ⟨w.heap.size,3,none⟩=some (.int .i64 o3):=ae HOb6.out 3;have uf:∀ n,w6.frozen? ⟨w.heap.size,n,none⟩=false:=fun n=>ap HOb6.out n;have g1:¬ w.heap.size+1=w.heap.size:=by omega
 have g2:¬ w.heap.size=w.heap.size+1:=by omega
 clear G6 F6 xf x24 x25 y0 y1;refine Zr (fun w':World=>w'.cell? ⟨w.heap.size+1,0,none⟩=some (.int .i64 f0)∧w'.cell? ⟨w.heap.size+1,1,none⟩=some (.int .i64 f1)∧w'.cell? ⟨w.heap.size+1,3,none⟩=some (.int .i64 f3)) (fun hHeld=>?_);refine ep 0 ?_;refine Zt 8 ?_;refine Z1 9 (fun K hK=>?_);go_simp;refine Zk hK fun hHeld=>?_;clear hK K;refine Zt 10 ?_;refine Z1 11 (fun K hK=>?_);go_simp;refine Zk hK fun hHeld=>?_;clear hK K;refine Zt 12 ?_;refine Z1 13 (fun K hK=>?_);go_simp;refine Zk hK fun hHeld=>?_;clear hK K;refine Zd ?_;obtain ⟨w7,hw7⟩:∃ w7,w7=(((w6.setCell ⟨w.heap.size,1,none⟩ (.int .i64 f0)).setCell ⟨w.heap.size,2,none⟩ (.int .i64 f1)).setCell ⟨w.heap.size,3,none⟩ (.int .i64 f3)).drew:=⟨_,rfl⟩
 have nf:(Value.slice a1 F1.length c1).ownBlock≠some w.heap.size:=fun e=>by have h:=HAf.out _ e;omega
 have nh:V.h.ownBlock≠some w.heap.size:=fun e=>by have h:=HN.out.2.1 _ e;omega
 have no:vo.ownBlock≠some w.heap.size:=fun e=>by have h:=HN.out.2.2 _ e;omega
 have np:w.heap.size≠p:=by omega
 have l1:=r8 HG6.out w.heap.size 1 (.int .i64 f0) HSo.out np nf nh no;have l2:=r8 l1.1 w.heap.size 2 (.int .i64 f1) HSo.out np nf nh no;have l3:=r8 l2.1 w.heap.size 3 (.int .i64 f3) HSo.out np nf nh no
 have F7:Fr S1 w6 w7:=by rw [hw7];exact ((l1.2.trans l2.2 (fun _ hx=>Or.inl hx)).trans l3.2 (fun _ hx=>Or.inl hx)).trans (Fr.of_below (S:=S1) (Hx (Hv _ _))) (fun _ hx=>Or.inl hx)
 have G7:=dB l3.1 (Hx (Hv _ _));rw [← hw7] at G7
 have HOb7:Hid (w7.heap[w.heap.size]?=some (.cells #[.int .i64 o0,.int .i64 f0,.int .i64 f1,.int .i64 f3,.int .i64 o4,.int .i64 o5,.int .i64 o6] 79 (0,0))):=by rw [hw7];exact aP (j:=3) (aP (j:=2) (aP (j:=1) HOb6.out (.int .i64 f0)) (.int .i64 f1)) (.int .i64 f3)
 have d3:w7.cell? ⟨w.heap.size+1,3,none⟩=some (.int .i64 f3):=(I8 (w:=w6) (w':=w7) (a:=⟨w.heap.size+1,3,none⟩) (F7.block (w.heap.size+1) (by omega) HFn.out)).trans d3;have v0:w7.cell? ⟨w.heap.size,0,none⟩=some (.int .i64 o0):=ae HOb7.out 0;have v1:w7.cell? ⟨w.heap.size,1,none⟩=some (.int .i64 f0):=ae HOb7.out 1;have v2:w7.cell? ⟨w.heap.size,2,none⟩=some (.int .i64 f1):=ae HOb7.out 2;have v3:w7.cell? ⟨w.heap.size,3,none⟩=some (.int .i64 f3):=ae HOb7.out 3;have v4:w7.cell? ⟨w.heap.size,4,none⟩=some (.int .i64 o4):=ae HOb7.out 4;have v5:w7.cell? ⟨w.heap.size,5,none⟩=some (.int .i64 o5):=ae HOb7.out 5;have v6:w7.cell? ⟨w.heap.size,6,none⟩=some (.int .i64 o6):=ae HOb7.out 6;have HF7:=Hu (HFr6.out.trans F7 HS1.out);have HG7:=Hu G7;have hs7:w6.heap.size≤w7.heap.size:=F7.size;have hq7:w.heap.size+1<w7.heap.size:=by omega
 clear G7 l1 l2 l3 F7 u1 u2 u3 uf d0 d1;rw [← hw7];clear hw7;go_wp2_with fail;refine (dn HG7.out ⟨o0,f0,f1,f3,o4,o5,o6⟩ (by omega)).mono ?_;rintro e w8 ⟨S8,V8,vo8,rfl,G8,rfl,F8,hS8⟩;have d3:=(I8 (w:=w7) (w':=w8) (a:=⟨w.heap.size+1,3,none⟩) (F8.block (w.heap.size+1) hq7 HFn.out)).trans d3;have HF8:=Hu (HF7.out.trans F8 HS1.out);have HS8:Hid (∀ x∈S8,x∈S∨w.heap.size≤x):=fun x hx=>(hS8 x hx).elim (HS1.out x) (fun h=>Or.inr (by have:=HF7.out.size;omega))
 have eX:({ X with flows:=F1,tab:=Y,lists:=L1 }:Wd)=jq X i Y:=by unfold jq;rw [HFl.out,HL1.out,HFe.out]
 rw [eX] at G8;have HG8:=Hu G8
 have hO8:(O++[(⟨o0,f0,f1,f3,o4,o5,o6⟩:Out)]).length≤1000000:=by rw [Ic,List.length_singleton];omega
 clear G8 F8 hS8 eX v0 v1 v2 v3 v4 v5 v6;go_wp2_with fail;refine (kg HG8.out f3 HBm.out HYm.out hO8).mono ?_;rintro e w9 ⟨S9,V9,vo9,rfl,G9,hV9,F9,hS9⟩;have HG9:=Hu G9;have HV9:=Hu hV9;have HF9:=Hu (HF8.out.trans F9 HS8.out);have HS9:Hid (∀ x∈S9,x∈S∨w.heap.size≤x):=fun x hx=>(hS9 x hx).elim (HS8.out x) (fun h=>Or.inr (by have:=HF8.out.size;omega));clear G9 hV9 F9 hS9;go_wp2_with fail;refine Ix (v:=.tuple #[]) (by simp [results,Tryz.results73,go_sem]) rfl ⟨S9,V9,vo9,rfl,HG9.out,⟨HV9.out.2.1,HV9.out.2.2⟩,HF9.out,HS9.out⟩):p:=h
theorem Q66 {p:Prop} (h:p:=by
 have k5:LsK (NI B S) (w4.setCell ⟨p,24,none⟩ (.int .i64 X.now)) (.slice a4 LD.length k4) LD:=gc HK4.out (by simp) (fun b' _ hb'=>I2 _ _ _ _ (fun e=>hb'.1 (by have e':b'=p:=e;rw [e'];exact HG4.out.sp)));have G6:=iQ G5 25 (.slice a4 LD.length k4) { X with flows:=F',lists:=LD } { V with w:=.slice a4 LD.length k4 } rfl rfl rfl rfl rfl rfl { G5.ro with wh:=k5 };have HG6:=Hu G6;have HF6:=Hu (((HF3.out.trans (Fr.of_below HB4.out) (fun _ hx=>Or.inl hx)).trans (cZ HS2.out 24 (.int .i64 X.now)) (fun _ hx=>Or.inl hx)).trans (cZ HS2.out 25 (.slice a4 LD.length k4)) (fun _ hx=>Or.inl hx):Fr S2 w _);clear G5 k5 G6;go_wp2_with fail;refine Ix (v:=.tuple #[]) (by simp [results,Tryz.results62,go_sem]) rfl ⟨_,rfl,HG6.out,⟨rfl,rfl,rfl⟩,HF6.out,by rw [I2 _ _ _ _ (by show bf≠p;exact hbp),I2 _ _ _ _ (by show bf≠p;exact hbp)];exact (HB4.out.block _ hbc).trans HBc.out⟩):p:=h
theorem Q8 {p:Prop} (h:p:=by
 rw [← hwa];clear hwa hb1 hl1 bw1;have x16:=ah bwa x16 hp;have x24:=ah bwa x24 hp;have x25:=ah bwa x25 hp;have xf:∀ n,wa.frozen? ⟨p,n,none⟩=false:=fun n=>(bwa.frozen (p:=⟨p,n,none⟩) hp).trans (xf n);have c0:=ah bwa c0 hbf;have c6:=ah bwa c6 hbf;have cf:wa.frozen? ⟨bf,o+6,none⟩=false:=(bwa.frozen (p:=⟨bf,o+6,none⟩) hbf).trans cf;have hbfa:wa.heap[bf]?=w.heap[bf]?:=bwa.block bf hbf;have HWa:=Hu bwa;have HBfa:=Hu hbfa;have HGa:=Hu (dB HG.out bwa);have HK:=Hu hk;clear bwa hbfa HG hk;go_wp2_with fail;obtain ⟨wc,hwc⟩:∃ wc,wc=((wa.setCell ⟨p,24,none⟩ (.int .i64 X.now)).setCell ⟨p,25,none⟩ (.slice a1 L1.length k1)).setCell ⟨bf,o+6,none⟩ (.int .i64 d):=⟨_,rfl⟩;rw [← hwc]
 have G1:=iQ HGa.out 24 (.int .i64 X.now) X V (by
  have e:dj X V=dj { X with wnow:=X.now } V:=(by unfold dj;rw [Hw.out])
  conv=>rhs;rw [e]
  rfl) rfl rfl rfl rfl rfl HGa.out.ro
 have k2:LsK (NI B S) (wa.setCell ⟨p,24,none⟩ (.int .i64 X.now)) (.slice a1 L1.length k1) L1:=gc HK.out (by simp) (fun b' _ hb'=>I2 _ _ _ _ (fun e=>hb'.1 (by have e':b'=p:=e;rw [e'];exact HGa.out.sp)));have G2:=iQ G1 25 (.slice a1 L1.length k1) { X with lists:=L1 } { V with w:=.slice a1 L1.length k1 } rfl rfl rfl rfl rfl rfl { G1.ro with wh:=k2 };have G3:=HSt.out _ _ _ G2 rfl rfl rfl (by rw [I2 _ _ _ _ (by show bf≠p;exact hbp),I2 _ _ _ _ (by show bf≠p;exact hbp)];exact HBfa.out);rw [HD.out] at hwc;rw [← hwc] at G3;have q24:=G3.1.gr.c 24 (v:=.int .i64 X.now) (by unfold dj;rw [← Hw.out];rfl);have q25:=G3.1.gr.c 25 (v:=.slice a1 L1.length k1) rfl
 have q0:wc.cell? ⟨bf,o,none⟩=some (.int .i64 slot):=by rw [hwc];go_simp
 have q6:wc.cell? ⟨bf,o+6,none⟩=some (.int .i64 d):=by rw [hwc,HD.out];go_simp
 have HBc:=Hu (show wc.heap[bf]?=(w.setCell ⟨bf,o+6,none⟩ (.int .i64 (X.now+span))).heap[bf]? from by rw [hwc];exact wR (by rw [I2 _ _ _ _ (by show bf≠p;exact hbp),I2 _ _ _ _ (by show bf≠p;exact hbp)];exact HBfa.out));have qf:∀ n,wc.frozen? ⟨p,n,none⟩=false:=fun n=>ap G3.1.bk n
 have hzc:w.heap.size≤wc.heap.size:=by have:=HWa.out.size;rw [hwc];simpa using this
 have HL4:=Hu (G3.1.gr.1.wh.at_:kY wc (.slice a1 L1.length k1) L1);have HG3:=Hu G3.1;have HF3:=Hu (((Fr.of_below HWa.out).trans ((cZ HS2.out 24 (.int .i64 X.now)).trans (cZ HS2.out 25 (.slice a1 L1.length k1)) (fun _ hx=>Or.inl hx)) (fun _ hx=>Or.inl hx):Fr S2 w _).trans G3.2 (fun _ hx=>Or.inl hx));clear G1 k2 G2 G3 HGa HK HBfa hwc x16 x24 x25 xf c0 c6 cf b0 b1;have hpc:p<wc.heap.size:=by omega
 have hbc:bf<wc.heap.size:=by omega
 refine Zr (fun w':World=>w'.cell? ⟨bf,o,none⟩=some (.int .i64 slot)∧w'.cell? ⟨bf,o+6,none⟩=some (.int .i64 d)) (fun hHeld=>?_);refine eP 0 ?_;refine Zt 4 ?_;refine ep 6 ?_;refine Zt 14 ?_;refine Z1 5 (fun K hK=>?_);go_simp;refine Zk hK fun hHeld=>?_;clear hK K;refine Z1 15 (fun K hK=>?_);go_simp;(go_at_call 101;refine (vp _ X.now L1 slot d _ (ft HL4.out _) hA1 hA2 _ _ _ HAr.out).mono ?_;rintro e w4 ⟨v4,rfl,hl4,hb4⟩;obtain ⟨a4,k4,rfl⟩:=bI hl4.at_;have bw4:Below wc.heap.size wc w4:=I0 (aJ (Hv wc.heap.size wc)) (hb4.mono (by simp));have q24:=ah bw4 q24 hpc;have q25:=ah bw4 q25 hpc;have qf:∀ n,w4.frozen? ⟨p,n,none⟩=false:=(fun n=>(bw4.frozen (p:=⟨p,n,none⟩) hpc).trans (qf n));have HG4:=Hu (dB HG3.out bw4);have HB4:=Hu bw4;have HK4:=Hu (j7 (jH hl4) (fun b _ hB=>⟨fun hS=>by have:=HG3.out.sl b hS;simp at hB;omega,by have:=HG3.out.pB;have:=HG3.out.plt;simp at hB;omega⟩):LsK (NI B S) w4 _ LD);clear hl4 bw4;(try dsimp only));(try go_wp2_with fail);refine Zk hK fun hHeld=>?_;clear hK K;refine eP 16 ?_;refine df 20 ?_;refine Z1 22 (fun K hK=>?_);go_simp;refine Zk hK fun hHeld=>?_;clear hK K;refine Zd ?_
 have G5:=iQ HG4.out 24 (.int .i64 X.now) { X with lists:=L1,flows:=F' } { V with w:=.slice a1 L1.length k1 } (by
  have e:dj { X with lists:=L1,flows:=F' } { V with w:=.slice a1 L1.length k1 }=dj { X with lists:=L1,flows:=F',wnow:=X.now } { V with w:=.slice a1 L1.length k1 }:=(by unfold dj;simp only;rw [Hw.out])
  conv=>rhs;rw [e]
  rfl) rfl rfl rfl rfl rfl HG4.out.ro
 exact Q66):p:=h
theorem Q9 {p:Prop} (h:p:=by
 rw [← hwa];clear hwa hb1 hl1 bw1;have x16:=ah bwa x16 hp;have x24:=ah bwa x24 hp;have x25:=ah bwa x25 hp;have xf:∀ n,wa.frozen? ⟨p,n,none⟩=false:=fun n=>(bwa.frozen (p:=⟨p,n,none⟩) hp).trans (xf n);have c0:=ah bwa c0 hbf;have c6:=ah bwa c6 hbf;have cf:wa.frozen? ⟨bf,o+6,none⟩=false:=(bwa.frozen (p:=⟨bf,o+6,none⟩) hbf).trans cf;have hbfa:wa.heap[bf]?=w.heap[bf]?:=bwa.block bf hbf;have HWa:=Hu bwa;have HBfa:=Hu hbfa;have HGa:=Hu (dB HG.out bwa);clear bwa hbfa HG;go_wp2_with fail;obtain ⟨wc,hwc⟩:∃ wc,wc=wa.setCell ⟨bf,o+6,none⟩ (.int .i64 d):=⟨_,rfl⟩;rw [← hwc];have G3:=HSt.out _ _ _ HGa.out rfl rfl rfl HBfa.out;rw [HD.out] at hwc;rw [← hwc] at G3;have q24:=G3.1.gr.c 24 (v:=.int .i64 X.now) (by unfold dj;rw [← Hw.out];rfl)
 have q25:wc.cell? ⟨p,25,none⟩=some (.slice al 25 cl):=by rw [hwc];go_simp
 have q0:wc.cell? ⟨bf,o,none⟩=some (.int .i64 slot):=by rw [hwc];go_simp
 have q6:wc.cell? ⟨bf,o+6,none⟩=some (.int .i64 d):=by rw [hwc,HD.out];go_simp
 have HBc:=Hu (show wc.heap[bf]?=(w.setCell ⟨bf,o+6,none⟩ (.int .i64 (X.now+span))).heap[bf]? from by rw [hwc];exact wR HBfa.out);have qf:∀ n,wc.frozen? ⟨p,n,none⟩=false:=fun n=>ap G3.1.bk n
 have hzc:w.heap.size≤wc.heap.size:=by have:=HWa.out.size;rw [hwc];simpa using this
 have HL4:Hid (kY wc (.slice al 25 cl) L1):=by have h:=G3.1.gr.1.wh.at_;rw [show ({ X with flows:=F' }:Wd).lists=X.lists from rfl,HEl.out,HL25.out,← HL1.out] at h;exact h
 have HG3:=Hu G3.1;have HF3:=Hu ((Fr.of_below HWa.out:Fr S2 w _).trans G3.2 (fun _ hx=>Or.inl hx));clear G3 HGa HBfa hwc x16 x24 x25 xf c0 c6 cf b0 b1;have hpc:p<wc.heap.size:=by omega
 have hbc:bf<wc.heap.size:=by omega
 refine Zr (fun w':World=>w'.cell? ⟨bf,o,none⟩=some (.int .i64 slot)∧w'.cell? ⟨bf,o+6,none⟩=some (.int .i64 d)) (fun hHeld=>?_);refine eP 0 ?_;refine Zt 4 ?_;refine ep 6 ?_;refine Zt 14 ?_;refine Z1 5 (fun K hK=>?_);go_simp;refine Zk hK fun hHeld=>?_;clear hK K;refine Z1 15 (fun K hK=>?_);go_simp;(go_at_call 101;refine (vp _ X.now L1 slot d _ (ft HL4.out _) hA1 hA2 _ _ _ HAr.out).mono ?_;rintro e w4 ⟨v4,rfl,hl4,hb4⟩;obtain ⟨a4,k4,rfl⟩:=bI hl4.at_;have bw4:Below wc.heap.size wc w4:=I0 (aJ (Hv wc.heap.size wc)) (hb4.mono (by simp));have q24:=ah bw4 q24 hpc;have q25:=ah bw4 q25 hpc;have qf:∀ n,w4.frozen? ⟨p,n,none⟩=false:=(fun n=>(bw4.frozen (p:=⟨p,n,none⟩) hpc).trans (qf n));have HG4:=Hu (dB HG3.out bw4);have HB4:=Hu bw4;have HK4:=Hu (j7 (jH hl4) (fun b _ hB=>⟨fun hS=>by have:=HG3.out.sl b hS;simp at hB;omega,by have:=HG3.out.pB;have:=HG3.out.plt;simp at hB;omega⟩):LsK (NI B S) w4 _ LD);clear hl4 bw4;(try dsimp only));(try go_wp2_with fail);refine Zk hK fun hHeld=>?_;clear hK K;refine eP 16 ?_;refine df 20 ?_;refine Z1 22 (fun K hK=>?_);go_simp;refine Zk hK fun hHeld=>?_;clear hK K;refine Zd ?_
 have G5:=iQ HG4.out 24 (.int .i64 X.now) { X with flows:=F' } V (by
  have e:dj { X with flows:=F' } V=dj { X with flows:=F',wnow:=X.now } V:=(by unfold dj;simp only;rw [Hw.out])
  conv=>rhs;rw [e]
  rfl) rfl rfl rfl rfl rfl HG4.out.ro
 exact Q66):p:=h
theorem Q62 {p:Prop} (h:p:=by
 rw [← hwa];clear hwa hb5 hl5 bw5;have hOb:wa.heap[w.heap.size]?=some (.cells #[.int .i64 o0,.int .i64 o1,.int .i64 o2,.int .i64 o3,.int .i64 o4,.int .i64 o5,.int .i64 o6] 79 (0,0)):=(bwa.block _ (by omega)).trans HOb.out;have hFb:wa.heap[w.heap.size+1]?=some (.cells #[.int .i64 f0,.int .i64 f1,.int .i64 f2,.int .i64 f3,.bool f4,.int .i64 f5,.int .i64 f6] 98 (0,0)):=(bwa.block _ (by omega)).trans HFb.out;have HGa:=Hu (dB HG4.out bwa);have HFa:=Hu (HF4.out.trans (Fr.of_below bwa:Fr S1 w4 wa) HS1.out);have hsa:=bwa.size;have xf:∀ n,wa.frozen? ⟨p,n,none⟩=false:=fun n=>ap HGa.out.bk n;have x24:=ah bwa x24 hp4;have x25:=ah bwa x25 hp4;have HOa:=Hu hOb;have HFa2:=Hu hFb;have HKa:=Hu hk;clear bwa hOb hFb hk d0 HOb HFb HG4 HF4;rcases hcc with ⟨rfl,rfl,e5⟩|⟨rfl,hcl⟩
 ·have E5:=Hu e5;clear e5;go_wp2_with fail;obtain ⟨w6,hw6⟩:∃ w6,w6=(wa.setCell ⟨p,24,none⟩ (.int .i64 X.now)).setCell ⟨p,25,none⟩ (.slice a5 L5.length k5):=⟨_,rfl⟩;rw [← hw6]
  have G5:=iQ HGa.out 24 (.int .i64 X.now) { X with flows:=F1,tab:=Y } { V with f:=.slice a1 F1.length c1,t:=.slice a3 Y.length c3 } (by
   have e:dj { X with flows:=F1,tab:=Y } { V with f:=.slice a1 F1.length c1,t:=.slice a3 Y.length c3 }=dj { X with flows:=F1,tab:=Y,wnow:=X.now } { V with f:=.slice a1 F1.length c1,t:=.slice a3 Y.length c3 }:=(by unfold dj;simp only;rw [HWn.out])
   conv=>rhs;rw [e]
   rfl) rfl rfl rfl rfl rfl HGa.out.ro
  have k6:LsK (NI B S1) (wa.setCell ⟨p,24,none⟩ (.int .i64 X.now)) (.slice a5 L5.length k5) L5:=gc HKa.out (by simp) (fun b' _ hb'=>I2 _ _ _ _ (fun e=>hb'.1 (by have e':b'=p:=e;rw [e'];exact HGa.out.sp)));have G6:=iQ G5 25 (.slice a5 L5.length k5) { X with flows:=F1,tab:=Y,lists:=L5 } { V with f:=.slice a1 F1.length c1,t:=.slice a3 Y.length c3,w:=.slice a5 L5.length k5 } rfl rfl rfl rfl rfl rfl { G5.ro with wh:=k6 };rw [← hw6,E5.out] at G6
  have F6:Fr S1 wa w6:=by rw [hw6];exact (cZ HGa.out.sp 24 (.int .i64 X.now)).trans (cZ HGa.out.sp 25 (.slice a5 L5.length k5)) (fun _ hx=>Or.inl hx)
  have HOb6:Hid (w6.heap[w.heap.size]?=some (.cells #[.int .i64 o0,.int .i64 o1,.int .i64 o2,.int .i64 o3,.int .i64 o4,.int .i64 o5,.int .i64 o6] 79 (0,0))):=by rw [hw6];exact (I2 _ _ _ _ (by show w.heap.size≠p;omega)).trans ((I2 _ _ _ _ (by show w.heap.size≠p;omega)).trans HOa.out)
  have HFb6:Hid (w6.heap[w.heap.size+1]?=some (.cells #[.int .i64 f0,.int .i64 f1,.int .i64 f2,.int .i64 f3,.bool f4,.int .i64 f5,.int .i64 f6] 98 (0,0))):=by rw [hw6];exact (I2 _ _ _ _ (by show w.heap.size+1≠p;omega)).trans ((I2 _ _ _ _ (by show w.heap.size+1≠p;omega)).trans HFa2.out)
  clear hw6 G5 k6;exact Q3
 ·go_wp2_with fail;obtain ⟨w6,hw6⟩:∃ w6,w6=wa:=⟨_,rfl⟩;rw [← hw6];have e:({ X with flows:=F1,tab:=Y }:Wd)={ X with flows:=F1,tab:=Y,lists:=L1 }:=by rw [hcl]
  have G6:=HGa.out;rw [← hw6,e] at G6
  have F6:Fr S1 wa w6:=by rw [hw6];exact Fr.refl _ _
  have HOb6:Hid (w6.heap[w.heap.size]?=some (.cells #[.int .i64 o0,.int .i64 o1,.int .i64 o2,.int .i64 o3,.int .i64 o4,.int .i64 o5,.int .i64 o6] 79 (0,0))):=by rw [hw6];exact HOa.out
  have HFb6:Hid (w6.heap[w.heap.size+1]?=some (.cells #[.int .i64 f0,.int .i64 f1,.int .i64 f2,.int .i64 f3,.bool f4,.int .i64 f5,.int .i64 f6] 98 (0,0))):=by rw [hw6];exact HFa2.out
  clear hw6 e;exact Q3):p:=h
def jE (now:Int) (LL:List (List Tm)) (slot span:Int):List (List Tm):=bK now ((LL.flatten.filter fun t=>!(t.id == slot))++[⟨now+span,slot⟩])
theorem uj {now:Int} {LL:List (List Tm)} (h:WhMay now LL) (slot:Int):WhMay now (bK now (LL.flatten.filter fun t=>!(t.id == slot)))∧(bK now (LL.flatten.filter fun t=>!(t.id == slot))).flatten.Perm (LL.flatten.filter fun t=>!(t.id == slot)):=
 pv h.1 h.2.1 (fun t ht=>h.tm t (List.mem_filter.1 ht).1) ((List.filter_sublist.map Tm.id).nodup h.2.2.2.2)
theorem Gk {now:Int} {LL:List (List Tm)} {slot span:Int} (hn:∀ t∈LL.flatten,¬ t.id=slot):bK now (LL.flatten++[⟨now+span,slot⟩])=jE now LL slot span:=by
 unfold jE;rw [List.filter_eq_self.2 (fun t ht=>by simpa using hn t ht)]
theorem Gj {now:Int} {LL:List (List Tm)} (h:WhMay now LL) (slot span:Int):bK now ((bK now (LL.flatten.filter fun t=>!(t.id == slot))).flatten++[⟨now+span,slot⟩])=jE now LL slot span:=
 fF ((uj h slot).2.append_right _)
theorem can_no {now:Int} {LL:List (List Tm)} (h:WhMay now LL) (slot:Int):∀ t∈(bK now (LL.flatten.filter fun t=>!(t.id == slot))).flatten,¬ t.id=slot:=fun t ht=>by
 have:=(List.mem_filter.1 ((uj h slot).2.mem_iff.1 ht)).2;simpa using this
theorem wR {w1 w2:World} {b j:Nat} {u:Value} (h:w1.heap[b]?=w2.heap[b]?):(w1.setCell ⟨b,j,none⟩ u).heap[b]?=(w2.setCell ⟨b,j,none⟩ u).heap[b]?:=by
 simp only [World.setCell,Array.getElem?_modify,if_true];rw [h]
def GU (B p bf o:Nat) (d:Int) (w:World) (S2:List Nat) (X':Wd) (O:List Out) (S:List Nat) (V:Vs) (vo:Value) (e:Ending) (w':World):Prop:=∃ V',e=.returned (.tuple #[])∧G B p w' X' O S V' vo∧Ho V V'∧Fr S2 w w'∧w'.heap[bf]?=(w.setCell ⟨bf,o+6,none⟩ (.int .i64 d)).heap[bf]?
theorem ft {w:World} {v:Value} {LL:List (List Tm)} (h:kY w v LL) (n:Nat):kY (w.drewN n) v LL:=ed h (aJ (Hv _ _))
theorem mp {B p:Nat} {w:World} {X:Wd} {O:List Out} {S:List Nat} {V:Vs} {vo:Value} (h:G B p w X O S V vo) (bf o:Nat) (slot span:Int) (F':List Fl) (S2:List Nat) (hS2:p∈S2) (hbf:bf<w.heap.size) (hbp:bf≠p)
  (c0:w.cell? ⟨bf,o,none⟩=some (.int .i64 slot)) (d0:Int) (c6:w.cell? ⟨bf,o+6,none⟩=some (.int .i64 d0)) (cf:w.frozen? ⟨bf,o+6,none⟩=false)
  (hst:∀ w' X1 V1,G B p w' X1 O S V1 vo→X1.flows=X.flows→V1.f=V.f→V1.h=V.h→w'.heap[bf]?=w.heap[bf]?→G B p (w'.setCell ⟨bf,o+6,none⟩ (.int .i64 (X.now+span))) { X1 with flows:=F' } O S V1 vo∧Fr S2 w' (w'.setCell ⟨bf,o+6,none⟩ (.int .i64 (X.now+span))))
  (hm:WhMay X.now X.lists) (hw:X.wnow=X.now) (ht:dJ ⟨X.now+span,slot⟩ X.now) :
  Calls Tryz.prog 62 #[.pointer (some ⟨p,0,none⟩),.pointer (some ⟨bf,o,none⟩),.int .i64 span] w
   (GU B p bf o (X.now+span) w S2 { X with flows:=F',lists:=jE X.now X.lists slot span } O S V vo):=by
 have hgr:=h.gr
 have x24:=hgr.c 24 (v:=.int .i64 X.wnow) rfl
 have x25:=hgr.c 25 (v:=V.w) rfl
 have x16:=hgr.c 16 (v:=.int .i64 X.now) rfl
 rw [hw] at x24
 have xf:∀ n,w.frozen? ⟨p,n,none⟩=false:=fun n=>ap h.bk n
 have hl:=hgr.1.wh.at_
 obtain ⟨al,cl,el⟩:=bI hl
 have HEl:=Hu el
 rw [el] at x25 hl
 have HWl:=Hu hl
 have h25:=hm.2.2.1
 have htot:=hm.tot
 have hp:=h.plt
 have HG:=Hu h
 have HM:=Hu hm
 have HTm:=Hu ht
 have HSt:=Hu hst
 have HS2:=Hu hS2
 obtain ⟨d,hd⟩:∃ d,d=X.now+span:=⟨_,rfl⟩
 have hdb:0≤d∧d≤1099511627776:=by have h1:=ht.1;have h2:=ht.2.2.1;have h3:=hm.1;simp only at h1 h2;omega
 have ew:IntKind.i64.wrap (X.now+span)=d:=by rw [IntKind.wrap_i64];omega
 have HD:=Hu hd
 have Hw:=Hu hw
 have HL25:=Hu h25
 have hX25:X.lists.length≤1048576:=by omega
 rw [h25] at x25 HWl
 clear h hm ht hst hS2 el hl hgr hd h25 hw
 have bp':¬ p=bf:=fun e=>hbp e.symm
 by_cases hex:∃ t∈X.lists.flatten,t.id=slot
 ·obtain ⟨L1,hL1⟩:∃ L1,L1=bK X.now (X.lists.flatten.filter fun t=>!(t.id == slot)):=⟨_,rfl⟩;have HCa:=Hu (show CanAns X.now X.lists slot X.now L1 0 from Or.inr (Or.inr ⟨HM.out,hex,rfl,hL1,rfl⟩));obtain ⟨LD,hLD⟩:∃ LD,LD=jE X.now X.lists slot span:=⟨_,rfl⟩;have hcm:=uj HM.out slot;have HAr:Hid (ArmAns X.now L1 ⟨d,slot⟩ X.now LD 0):=Or.inr (Or.inr (Or.inr ⟨by rw [hL1];exact hcm.1,by rw [HD.out];exact HTm.out,by rw [hL1];exact can_no HM.out slot,rfl,by rw [hLD,hL1,HD.out];exact (Gj HM.out slot span).symm,rfl⟩))
  have hA1:L1.length≤1048576:=by rw [hL1,cV];omega
  have hA2:L1.flatten.length≤1048576:=by rw [hL1];have:=hcm.1.tot;omega
  have HLD:=Hu hLD;rw [← hLD];clear hex hL1 hcm hLD;go_enter Tryz.func62,Tryz.ntmps62;go_wp2_with fail;refine Zr (fun w':World=>w'.cell? ⟨p,24,none⟩=some (.int .i64 X.now)∧w'.cell? ⟨p,25,none⟩=some (.slice al 25 cl)∧w'.cell? ⟨bf,o,none⟩=some (.int .i64 slot)) (fun hHeld=>?_);refine ep 0 ?_;refine df 8 ?_;refine Z2 10 14 (fun K hK=>?_) (fun K hK=>?_);(focus (go_simp;(first|(go_at_call 44;refine (cW _ _ X.lists slot _ (ft HWl.out _) (by omega) (by omega) _ _ _ HCa.out).mono ?_;rintro e w1 ⟨v1,rfl,hl1,hb1⟩;obtain ⟨a1,k1,rfl⟩:=bI hl1.at_;(try dsimp only))|(go_at_call 44;refine (cW _ _ X.lists slot _ (ed HWl.out (Hx ((Hv w.heap.size w).alloc (I3 _) _))) (by omega) (by omega) _ _ _ HCa.out).mono ?_;rintro e w1 ⟨v1,rfl,hl1,hb1⟩;obtain ⟨a1,k1,rfl⟩:=bI hl1.at_;have bx0:w1.cell? ⟨w.heap.size,0,none⟩=some (.int .i64 0):=ah hb1 (by go_simp) (by simp);have bx1:w1.cell? ⟨w.heap.size,1,none⟩=some (.slice none 0 0):=ah hb1 (by go_simp) (by simp);have bxf:∀ n,w1.frozen? ⟨w.heap.size,n,none⟩=false:=(fun n=>(hb1.frozen (p:=⟨w.heap.size,n,none⟩) (by simp)).trans (by go_simp));(try dsimp only)));(try go_wp2_with fail);refine Zk hK fun hHeld=>?_;clear hK K;refine df 11 ?_;refine Zt 13 ?_;refine Z1 14 (fun K hK=>?_);go_simp;refine Zk hK fun hHeld=>?_;clear hK K));rotate_left 1;(focus (go_simp;refine Zk hK fun hHeld=>?_;clear hK K;refine Z1 10 (fun K hK=>?_);go_simp;(first|(go_at_call 44;refine (cW _ _ X.lists slot _ (ft HWl.out _) (by omega) (by omega) _ _ _ HCa.out).mono ?_;rintro e w1 ⟨v1,rfl,hl1,hb1⟩;obtain ⟨a1,k1,rfl⟩:=bI hl1.at_;(try dsimp only))|(go_at_call 44;refine (cW _ _ X.lists slot _ (ed HWl.out (Hx ((Hv w.heap.size w).alloc (I3 _) _))) (by omega) (by omega) _ _ _ HCa.out).mono ?_;rintro e w1 ⟨v1,rfl,hl1,hb1⟩;obtain ⟨a1,k1,rfl⟩:=bI hl1.at_;have bx0:w1.cell? ⟨w.heap.size,0,none⟩=some (.int .i64 0):=ah hb1 (by go_simp) (by simp);have bx1:w1.cell? ⟨w.heap.size,1,none⟩=some (.slice none 0 0):=ah hb1 (by go_simp) (by simp);have bxf:∀ n,w1.frozen? ⟨w.heap.size,n,none⟩=false:=(fun n=>(hb1.frozen (p:=⟨w.heap.size,n,none⟩) (by simp)).trans (by go_simp));(try dsimp only)));(try go_wp2_with fail);refine Zk hK fun hHeld=>?_;clear hK K;refine df 11 ?_;refine Zt 13 ?_));rotate_left 1;(all_goals (refine Z1 15 (fun K hK=>?_);go_simp;refine Zk hK fun hHeld=>?_;clear hK K;refine Zt 16 ?_));(all_goals refine Zd ?_)
  ·obtain ⟨wa,hwa⟩:∃ wa,wa=w1.alloc (.cells #[.int .i64 X.now,.slice a1 L1.length k1] 61):=⟨_,rfl⟩;have bw1:Below w.heap.size w w1:=I0 (aJ (Hv w.heap.size w)) (hb1.mono (by simp));have hz1:=bw1.size
   have bwa:Below w.heap.size w wa:=by rw [hwa];exact bw1.alloc hz1 _
   have b0:wa.cell? ⟨w1.heap.size,0,none⟩=some (.int .i64 X.now):=by rw [hwa];go_simp
   have b1:wa.cell? ⟨w1.heap.size,1,none⟩=some (.slice a1 L1.length k1):=by rw [hwa];go_simp
   have hk:LsK (NI B S) wa (.slice a1 L1.length k1) L1:=gc (j7 (jH hl1) (fun b _ hB=>⟨fun hS=>by have:=HG.out.sl b hS;simp at hB;omega,by have:=HG.out.pB;have:=HG.out.plt;simp at hB;omega⟩)) (by rw [hwa];simp) (fun b hb _=>by rw [hwa];exact ((Hv _ _).alloc (I3 _) _:Below w1.heap.size w1 _).block b hb);have n1:¬ w1.heap.size=p:=by omega
   have n2:¬ p=w1.heap.size:=by omega
   have n3:¬ w1.heap.size=bf:=by omega
   have n4:¬ bf=w1.heap.size:=by omega
   exact Q8
  ·obtain ⟨wa,hwa⟩:∃ wa,wa=(w1.setCell ⟨w.heap.size,0,none⟩ (.int .i64 X.now)).setCell ⟨w.heap.size,1,none⟩ (.slice a1 L1.length k1):=⟨_,rfl⟩;have bw1:Below w.heap.size w w1:=I0 (Hx ((Hv w.heap.size w).alloc (I3 _) _)) (hb1.mono (by simp))
   have bwa:Below w.heap.size w wa:=by rw [hwa];exact (bw1.setCell (I3 _) _).setCell (I3 _) _
   have b0:wa.cell? ⟨w.heap.size,0,none⟩=some (.int .i64 X.now):=by rw [hwa];go_simp
   have b1:wa.cell? ⟨w.heap.size,1,none⟩=some (.slice a1 L1.length k1):=by rw [hwa];go_simp
   have hk:LsK (NI B S) wa (.slice a1 L1.length k1) L1:=j7 (gc (jH hl1) (by rw [hwa];simp) (fun b _ hB=>by rw [hwa,I2 _ _ _ _ (by simp at hB;show b≠w.heap.size;omega),I2 _ _ _ _ (by simp at hB;show b≠w.heap.size;omega)])) (fun b _ hB=>⟨fun hS=>by have:=HG.out.sl b hS;simp at hB;omega,by have:=HG.out.pB;have:=HG.out.plt;simp at hB;omega⟩);have n1:¬ w.heap.size=p:=by omega
   have n2:¬ p=w.heap.size:=by omega
   have n3:¬ w.heap.size=bf:=by omega
   have n4:¬ bf=w.heap.size:=by omega
   exact Q8
 ·obtain ⟨L0,hL0⟩:∃ L0:List (List Tm),L0=[]:=⟨_,rfl⟩;have hno:∀ t∈X.lists.flatten,¬ t.id=slot:=fun t ht e=>hex ⟨t,ht,e⟩;have HCa:=Hu (show CanAns X.now X.lists slot 0 L0 8 from Or.inr (Or.inl ⟨HM.out,hno,rfl,hL0,rfl⟩));obtain ⟨L1,hL1⟩:∃ L1,L1=X.lists:=⟨_,rfl⟩;have HL1:=Hu hL1;obtain ⟨LD,hLD⟩:∃ LD,LD=jE X.now X.lists slot span:=⟨_,rfl⟩;have HAr:Hid (ArmAns X.now L1 ⟨d,slot⟩ X.now LD 0):=Or.inr (Or.inr (Or.inr ⟨by rw [hL1];exact HM.out,by rw [HD.out];exact HTm.out,by rw [hL1];exact hno,rfl,by rw [hLD,hL1,HD.out];exact (Gk hno).symm,rfl⟩))
  have hA1:L1.length≤1048576:=by rw [hL1];omega
  have hA2:L1.flatten.length≤1048576:=by rw [hL1];omega
  have HLD:=Hu hLD;rw [← hLD];clear hex hL1 hno hLD hL0;go_enter Tryz.func62,Tryz.ntmps62;go_wp2_with fail;refine Zr (fun w':World=>w'.cell? ⟨p,24,none⟩=some (.int .i64 X.now)∧w'.cell? ⟨p,25,none⟩=some (.slice al 25 cl)∧w'.cell? ⟨bf,o,none⟩=some (.int .i64 slot)) (fun hHeld=>?_);refine ep 0 ?_;refine df 8 ?_;refine Z2 10 14 (fun K hK=>?_) (fun K hK=>?_);(focus (go_simp;(first|(go_at_call 44;refine (cW _ _ X.lists slot _ (ft HWl.out _) (by omega) (by omega) _ _ _ HCa.out).mono ?_;rintro e w1 ⟨v1,rfl,hl1,hb1⟩;obtain ⟨a1,k1,rfl⟩:=bI hl1.at_;(try dsimp only))|(go_at_call 44;refine (cW _ _ X.lists slot _ (ed HWl.out (Hx ((Hv w.heap.size w).alloc (I3 _) _))) (by omega) (by omega) _ _ _ HCa.out).mono ?_;rintro e w1 ⟨v1,rfl,hl1,hb1⟩;obtain ⟨a1,k1,rfl⟩:=bI hl1.at_;have bx0:w1.cell? ⟨w.heap.size,0,none⟩=some (.int .i64 0):=ah hb1 (by go_simp) (by simp);have bx1:w1.cell? ⟨w.heap.size,1,none⟩=some (.slice none 0 0):=ah hb1 (by go_simp) (by simp);have bxf:∀ n,w1.frozen? ⟨w.heap.size,n,none⟩=false:=(fun n=>(hb1.frozen (p:=⟨w.heap.size,n,none⟩) (by simp)).trans (by go_simp));(try dsimp only)));(try go_wp2_with fail);refine Zk hK fun hHeld=>?_;clear hK K;refine df 11 ?_;refine Zt 13 ?_;refine Z1 14 (fun K hK=>?_);go_simp;refine Zk hK fun hHeld=>?_;clear hK K));rotate_left 1;(focus (go_simp;refine Zk hK fun hHeld=>?_;clear hK K;refine Z1 10 (fun K hK=>?_);go_simp;(first|(go_at_call 44;refine (cW _ _ X.lists slot _ (ft HWl.out _) (by omega) (by omega) _ _ _ HCa.out).mono ?_;rintro e w1 ⟨v1,rfl,hl1,hb1⟩;obtain ⟨a1,k1,rfl⟩:=bI hl1.at_;(try dsimp only))|(go_at_call 44;refine (cW _ _ X.lists slot _ (ed HWl.out (Hx ((Hv w.heap.size w).alloc (I3 _) _))) (by omega) (by omega) _ _ _ HCa.out).mono ?_;rintro e w1 ⟨v1,rfl,hl1,hb1⟩;obtain ⟨a1,k1,rfl⟩:=bI hl1.at_;have bx0:w1.cell? ⟨w.heap.size,0,none⟩=some (.int .i64 0):=ah hb1 (by go_simp) (by simp);have bx1:w1.cell? ⟨w.heap.size,1,none⟩=some (.slice none 0 0):=ah hb1 (by go_simp) (by simp);have bxf:∀ n,w1.frozen? ⟨w.heap.size,n,none⟩=false:=(fun n=>(hb1.frozen (p:=⟨w.heap.size,n,none⟩) (by simp)).trans (by go_simp));(try dsimp only)));(try go_wp2_with fail);refine Zk hK fun hHeld=>?_;clear hK K;refine df 11 ?_;refine Zt 13 ?_));rotate_left 1;(all_goals (refine Z1 15 (fun K hK=>?_);go_simp;refine Zk hK fun hHeld=>?_;clear hK K;refine Zt 16 ?_));(all_goals refine Zd ?_)
  ·obtain ⟨wa,hwa⟩:∃ wa,wa=w1.alloc (.cells #[.int .i64 0,.slice a1 L0.length k1] 61):=⟨_,rfl⟩;have bw1:Below w.heap.size w w1:=I0 (aJ (Hv w.heap.size w)) (hb1.mono (by simp));have hz1:=bw1.size
   have bwa:Below w.heap.size w wa:=by rw [hwa];exact bw1.alloc hz1 _
   have b0:wa.cell? ⟨w1.heap.size,0,none⟩=some (.int .i64 0):=by rw [hwa];go_simp
   have b1:wa.cell? ⟨w1.heap.size,1,none⟩=some (.slice a1 L0.length k1):=by rw [hwa];go_simp
   have n1:¬ w1.heap.size=p:=by omega
   have n2:¬ p=w1.heap.size:=by omega
   have n3:¬ w1.heap.size=bf:=by omega
   have n4:¬ bf=w1.heap.size:=by omega
   exact Q9
  ·obtain ⟨wa,hwa⟩:∃ wa,wa=(w1.setCell ⟨w.heap.size,0,none⟩ (.int .i64 0)).setCell ⟨w.heap.size,1,none⟩ (.slice a1 L0.length k1):=⟨_,rfl⟩;have bw1:Below w.heap.size w w1:=I0 (Hx ((Hv w.heap.size w).alloc (I3 _) _)) (hb1.mono (by simp))
   have bwa:Below w.heap.size w wa:=by rw [hwa];exact (bw1.setCell (I3 _) _).setCell (I3 _) _
   have b0:wa.cell? ⟨w.heap.size,0,none⟩=some (.int .i64 0):=by rw [hwa];go_simp
   have b1:wa.cell? ⟨w.heap.size,1,none⟩=some (.slice a1 L0.length k1):=by rw [hwa];go_simp
   have n1:¬ w.heap.size=p:=by omega
   have n2:¬ p=w.heap.size:=by omega
   have n3:¬ w.heap.size=bf:=by omega
   have n4:¬ bf=w.heap.size:=by omega
   exact Q9
def BC (now:Int) (LL:List (List Tm)) (slot:Int):List (List Tm):=bK now (LL.flatten.filter fun t=>!(t.id == slot))
theorem BA {now:Int} {LL:List (List Tm)} (h:WhMay now LL) {slot:Int} (hn:∀ t∈LL.flatten,¬ t.id=slot):BC now LL slot=LL:=by
 unfold BC;rw [List.filter_eq_self.2 (fun t ht=>by simpa using hn t ht)];exact (C7 h).symm
def jq (X:Wd) (i:Nat) (Y:List Sl):Wd:={ X with flows:=X.flows.take i++X.flows.drop (i+1),tab:=Y,lists:=BC X.now X.lists (X.flows.getD i Fl.zero).slot }
theorem ip {B p:Nat} {w:World} {X:Wd} {O:List Out} {S:List Nat} {V:Vs} {vo:Value} (h:G B p w X O S V vo) (i:Nat) (hi:i<X.flows.length) (hfl:X.flows.length≤1000000) (o:Out) (f:Fl) (hf:X.flows.getD i Fl.zero=f) (Y:List Sl)
  (hD:uC X.tab f.slot f.gen Y 0) (hY:dN Y) (hm:bF X.lives X.reqs) (hw:WhMay X.now X.lists) (hwn:X.wnow=X.now) (hO:O.length≤900000) :
  Calls Tryz.prog 73 #[.pointer (some ⟨p,0,none⟩),.int .i64 (i:Int),.agg (Out.cells o).toArray] w
   (GTo B p w S (bZ (jq X i Y) f.backend).1 (O++[⟨o.kind,f.slot,f.gen,f.backend,o.request,o.code,o.why⟩]++(bZ (jq X i Y) f.backend).2) (fun V'=>V'.h=V.h∧V'.m=V.m) (.tuple #[])):=by
 have hgr:=h.gr
 have x18:=hgr.c 18 (v:=V.f) rfl
 have xf:∀ n,w.frozen? ⟨p,n,none⟩=false:=fun n=>ap h.bk n
 rcases fv h.of with ⟨_,h0⟩|⟨g,cf,ef,_⟩
 ·omega
 have hof:=h.of
 rw [ef] at x18 hof
 have hgw:=(hof.lt g rfl).2
 have hgp:g≠p:=(h.sf g (by rw [ef];rfl)).2
 obtain ⟨_,_,e0,_,_,_,pt⟩:=aK Fl.zero (aD hof (by simp) (iL _)).1
 injection e0 with e01 _ e03
 subst e03
 obtain ⟨bf,of_,e1,hbf,q⟩:=pt (by intro hh;rw [hh] at hi;simp at hi)
 rw [← e01] at e1
 injection e1 with e1
 injection e1 with e1 e2
 subst e1 e2
 have q':∀ j,j<7→w.cell? ⟨g,i*7+j,none⟩=(Fl.cells f)[j]?:=fun j hj=>by have:=q i j hi hj;rw [hf] at this;simpa using this
 obtain ⟨f0,f1,f2,f3,f4,f5,f6⟩:=f
 obtain ⟨o0,o1,o2,o3,o4,o5,o6⟩:=o
 unfold Out.cells
 have d0:=q' 0 (by omega)
 have d1:=q' 1 (by omega)
 have d2:=q' 2 (by omega)
 have d3:=q' 3 (by omega)
 have d4:=q' 4 (by omega)
 have d5:=q' 5 (by omega)
 have d6:=q' 6 (by omega)
 simp only [Fl.cells,I5,I6,Nat.add_zero] at d0 d1 d2 d3 d4 d5 d6
 have hp:=h.plt
 have i0:(0:Int)≤(i:Int):=by omega
 have i1:(i:Int)<(X.flows.length:Int):=by omega
 have iw:IntKind.i64.wrap ((i:Int)+1)=(i:Int)+1:=by rw [IntKind.wrap_i64];omega
 have HG:=Hu h
 have HEf:=Hu ef
 have HDr:=Hu hD
 have HYm:=Hu hY
 have HBm:=Hu hm
 have HWm:=Hu hw
 have HWn:=Hu hwn
 have HFe:=Hu hf
 have HOf:=Hu hof
 clear h hgr hof pt q q' hf hD hY hm hw hwn ef e01
 go_enter Tryz.func73,Tryz.ntmps73
 go_wp2_with fail
 have hBw:B≤w.heap.size:=by have:=HG.out.pB;omega
 obtain ⟨w0,hw0⟩:∃ w0,w0=(w.alloc (.cells #[.int .i64 o0,.int .i64 o1,.int .i64 o2,.int .i64 o3,.int .i64 o4,.int .i64 o5,.int .i64 o6] 79)).alloc (.cells #[.int .i64 f0,.int .i64 f1,.int .i64 f2,.int .i64 f3,.bool f4,.int .i64 f5,.int .i64 f6] 98):=⟨_,rfl⟩
 have b0:Below w.heap.size w w0:=by rw [hw0];exact ((Hv _ _).alloc (I3 _) _).alloc (by simp) _
 have z0:w0.heap.size=w.heap.size+1+1:=by rw [hw0];simp
 have HOb:Hid (w0.heap[w.heap.size]?=some (.cells #[.int .i64 o0,.int .i64 o1,.int .i64 o2,.int .i64 o3,.int .i64 o4,.int .i64 o5,.int .i64 o6] 79 (0,0))):=by rw [hw0];exact (heap_alloc_old _ _ (by simp)).trans (az (w:=w) _ rfl)
 have HFb:Hid (w0.heap[w.heap.size+1]?=some (.cells #[.int .i64 f0,.int .i64 f1,.int .i64 f2,.int .i64 f3,.bool f4,.int .i64 f5,.int .i64 f6] 98 (0,0))):=by rw [hw0];exact az (w:=w.alloc _) _ (by simp)
 have HG0:=Hu (Ez HG.out b0 w.heap.size (I3 _) (by omega))
 have HN:Hid ((∀ b,V.f.ownBlock=some b→b<w.heap.size)∧(∀ b,V.h.ownBlock=some b→b<w.heap.size)∧∀ b,vo.ownBlock=some b→b<w.heap.size):=⟨fun b hb=>(HG.out.of.lt b hb).2,fun b hb=>(HG.out.oh.lt b hb).2,fun b hb=>(HG.out.oo.lt b hb).2⟩
 have HB0:=Hu b0
 have xf:∀ n,w0.frozen? ⟨p,n,none⟩=false:=fun n=>(b0.frozen (p:=⟨p,n,none⟩) hp).trans (xf n)
 have x18:=ah b0 x18 hp
 rw [← hw0]
 clear hw0 d0 d1 d2 d3 d4 d5 d6
 refine (delFl B _ X.flows i _ (by omega) (bA HOf.out b0) hi (by omega)).mono ?_
 rintro e w1 ⟨v1,rfl,hob,hown1,hz1,hbl1,hb1⟩
 have hk1:∀ b,b<w0.heap.size→b≠g→w1.heap[b]?=w0.heap[b]?:=fun b h1 h2=>hbl1 b h1 (fun e=>h2 (Option.some.inj e).symm)
 have HOb:Hid (w1.heap[w.heap.size]?=some (.cells #[.int .i64 o0,.int .i64 o1,.int .i64 o2,.int .i64 o3,.int .i64 o4,.int .i64 o5,.int .i64 o6] 79 (0,0))):=(hk1 _ (by omega) (by omega)).trans HOb.out
 have HFb:Hid (w1.heap[w.heap.size+1]?=some (.cells #[.int .i64 f0,.int .i64 f1,.int .i64 f2,.int .i64 f3,.bool f4,.int .i64 f5,.int .i64 f6] 98 (0,0))):=(hk1 _ (by omega) (by omega)).trans HFb.out
 have hp1:=hk1 p (by omega) (fun e=>hgp e.symm)
 have x18:=(I8 (w:=w0) (w':=w1) (a:=⟨p,18,none⟩) hp1).trans x18
 have xf:∀ n,w1.frozen? ⟨p,n,none⟩=false:=fun n=>(World.frozen?_of_block (w:=w0) (w':=w1) (a:=⟨p,n,none⟩) hp1).trans (xf n)
 obtain ⟨a1,c1,rfl,_⟩:=aC hown1
 obtain ⟨F1,hF1⟩:∃ F1,F1=X.flows.take i++X.flows.drop (i+1):=⟨_,rfl⟩
 rw [← hF1] at hown1 hob ⊢
 obtain ⟨S1,hG1,hFr1,hS1,hS1in⟩:=uy HG0.out F1 hb1 (fun b h1 h2=>hbl1 b h1 (fun e=>h2 (by rw [HEf.out];exact e))) hown1 (fun b hb=>Or.inl (by rw [HEf.out];exact hob ▸ hb))
 have HG1:=Hu hG1
 have HF1:=Hu ((Fr.of_below HB0.out:Fr S w w0).trans hFr1 (fun x hx=>(List.mem_cons.1 hx).elim (fun e=>Or.inr (by omega)) Or.inl))
 have HSo:Hid (w.heap.size∈S1):=hS1in _ Im
 have HS1:Hid (∀ x∈S1,x∈S∨w.heap.size≤x):=fun x hx=>(hS1 x hx).elim (fun h=>(List.mem_cons.1 h).elim (fun e=>Or.inr (by omega)) Or.inl) (fun h=>Or.inr (by omega))
 have HFl:=Hu hF1
 have HAf:Hid (∀ b,(Value.slice a1 F1.length c1).ownBlock=some b→b<w.heap.size):=fun b hb=>by have e:(Value.slice (some ⟨g,0,none⟩) X.flows.length cf).ownBlock=some b:=hob ▸ hb;obtain rfl:g=b:=Option.some.inj e;exact hgw
 have HFn:Hid (w.heap.size+1∉S1):=fun hx=>by
  rcases hS1 _ hx with h|h
  ·rcases List.mem_cons.1 h with e|h
   ·omega
   ·have:=HG.out.sl _ h;omega
  ·omega
 clear hob hown1 hbl1 hb1 hk1 hp1 hG1 hFr1 hS1 hS1in hF1 HG0 b0 HG
 go_wp2_with fail
 obtain ⟨w2,hw2⟩:∃ w2,w2=w1.setCell ⟨p,18,none⟩ (.slice a1 F1.length c1):=⟨_,rfl⟩
 rw [← hw2] at HG1 HF1 ⊢
 have hz2:w2.heap.size=w1.heap.size:=by rw [hw2];simp
 have hs1:w.heap.size+1+1≤w1.heap.size:=by omega
 have HOb:Hid (w2.heap[w.heap.size]?=some (.cells #[.int .i64 o0,.int .i64 o1,.int .i64 o2,.int .i64 o3,.int .i64 o4,.int .i64 o5,.int .i64 o6] 79 (0,0))):=by rw [hw2];exact (I2 _ _ _ _ (by show w.heap.size≠p;omega)).trans HOb.out
 have HFb:Hid (w2.heap[w.heap.size+1]?=some (.cells #[.int .i64 f0,.int .i64 f1,.int .i64 f2,.int .i64 f3,.bool f4,.int .i64 f5,.int .i64 f6] 98 (0,0))):=by rw [hw2];exact (I2 _ _ _ _ (by show w.heap.size+1≠p;omega)).trans HFb.out
 clear hw2 x18 xf
 have h2:=HG1.out.gr
 have x17:=h2.c 17 (v:=V.t) rfl
 have xf:∀ n,w2.frozen? ⟨p,n,none⟩=false:=fun n=>ap HG1.out.bk n
 obtain ⟨at_,ct,et,_⟩:=aq h2.1.ta.1
 have HT:=Hu h2.1.ta.1
 rw [show ({ V with f:=.slice a1 F1.length c1 }:Vs).t=V.t from rfl] at et HT
 rw [et] at x17 HT
 have d0:w2.cell? ⟨w.heap.size+1,0,none⟩=some (.int .i64 f0):=ae HFb.out 0
 have d1:w2.cell? ⟨w.heap.size+1,1,none⟩=some (.int .i64 f1):=ae HFb.out 1
 have hp2:p<w2.heap.size:=by omega
 have hq2:w.heap.size+1<w2.heap.size:=by omega
 clear h2 et
 (refine Zr (fun w':World=>w'.cell? ⟨w.heap.size+1,0,none⟩=some (.int .i64 f0)∧w'.cell? ⟨w.heap.size+1,1,none⟩=some (.int .i64 f1)) (fun hHeld=>?_);refine eP 0 ?_;refine Zt 4 ?_;refine df 6 ?_;refine Z1 5 (fun K hK=>?_);go_simp;refine Zk hK fun hHeld=>?_;clear hK K;refine Z1 8 (fun K hK=>?_);go_simp;(go_at_call 121;refine (Av X.tab Y f0 f1 0 _ _ (dD HT.out _) HDr.out).mono ?_;rintro e w3 ⟨v3,rfl,R3,hb3⟩;obtain ⟨a3,c3,rfl,_⟩:=aq R3.1;have bw3:Below w2.heap.size w2 w3:=I0 (aJ (Hv w2.heap.size w2)) (hb3.mono (by simp));have x17:=ah bw3 x17 hp2;have xf:∀ n,w3.frozen? ⟨p,n,none⟩=false:=(fun n=>(bw3.frozen (p:=⟨p,n,none⟩) hp2).trans (xf n));have HK3:=Hu (dm HG1.out R3 (by simp));have HB3:=Hu bw3;clear R3 bw3;(try dsimp only));(try go_wp2_with fail);refine Zk hK fun hHeld=>?_;clear hK K;refine eP 9 ?_;refine df 13 ?_;refine Z1 15 (fun K hK=>?_);go_simp;refine Zk hK fun hHeld=>?_;clear hK K;refine Zd ?_)
 go_wp2_with fail
 obtain ⟨w4,hw4⟩:∃ w4,w4=w3.setCell ⟨p,17,none⟩ (.slice a3 Y.length c3):=⟨_,rfl⟩
 rw [← hw4]
 have G3:=dB HG1.out HB3.out
 have G4:=iQ G3 17 (.slice a3 Y.length c3) { X with flows:=F1,tab:=Y } { V with f:=.slice a1 F1.length c1,t:=.slice a3 Y.length c3 } rfl rfl rfl rfl rfl rfl { G3.ro with ta:=HK3.out }
 rw [← hw4] at G4
 have HG4:=Hu G4
 have F4:Fr S1 w2 w4:=by rw [hw4];exact (Fr.of_below HB3.out).trans (cZ G3.sp 17 (.slice a3 Y.length c3)) (fun _ hx=>Or.inl hx)
 have HF4:=Hu (HF1.out.trans F4 HS1.out)
 have hs4:w2.heap.size≤w4.heap.size:=F4.size
 have HOb:Hid (w4.heap[w.heap.size]?=some (.cells #[.int .i64 o0,.int .i64 o1,.int .i64 o2,.int .i64 o3,.int .i64 o4,.int .i64 o5,.int .i64 o6] 79 (0,0))):=by rw [hw4];exact (I2 _ _ _ _ (by show w.heap.size≠p;omega)).trans ((HB3.out.block _ (by omega)).trans HOb.out)
 have HFb:Hid (w4.heap[w.heap.size+1]?=some (.cells #[.int .i64 f0,.int .i64 f1,.int .i64 f2,.int .i64 f3,.bool f4,.int .i64 f5,.int .i64 f6] 98 (0,0))):=by rw [hw4];exact (I2 _ _ _ _ (by show w.heap.size+1≠p;omega)).trans ((HB3.out.block _ (by omega)).trans HFb.out)
 have h4:=G4.gr
 have x24:=h4.c 24 (v:=.int .i64 X.now) (by unfold dj;simp only;rw [← HWn.out];rfl)
 have x25:=h4.c 25 (v:=V.w) rfl
 have xf:∀ n,w4.frozen? ⟨p,n,none⟩=false:=fun n=>ap G4.bk n
 have hl4:kY w4 V.w X.lists:=h4.1.wh.at_
 obtain ⟨al,cl,el⟩:=bI hl4
 have h25:=HWm.out.2.2.1
 have htot:=HWm.out.tot
 have hX25:X.lists.length≤1048576:=by omega
 rw [h25] at el
 rw [el] at x25 hl4
 have HWl:=Hu hl4
 have HEl:=Hu el
 have d0:w4.cell? ⟨w.heap.size+1,0,none⟩=some (.int .i64 f0):=ae HFb.out 0
 have hp4:p<w4.heap.size:=by omega
 have hq4:w.heap.size+1<w4.heap.size:=by omega
 obtain ⟨L1,hL1⟩:∃ L1,L1=BC X.now X.lists f0:=⟨_,rfl⟩
 have HL1:=Hu hL1
 have hcode:∃ n5 L5 c5,CanAns X.now X.lists f0 n5 L5 c5∧((c5=0∧n5=X.now∧L5=L1)∨(c5=8∧L1=X.lists)):=by
  by_cases hex:∃ t∈X.lists.flatten,t.id=f0
  ·exact ⟨X.now,L1,0,Or.inr (Or.inr ⟨HWm.out,hex,rfl,hL1,rfl⟩),Or.inl ⟨rfl,rfl,rfl⟩⟩
  ·have hno:∀ t∈X.lists.flatten,¬ t.id=f0:=fun t ht e=>hex ⟨t,ht,e⟩;exact ⟨0,[],8,Or.inr (Or.inl ⟨HWm.out,hno,rfl,rfl,rfl⟩),Or.inr ⟨rfl,by rw [hL1];exact BA HWm.out hno⟩⟩
 obtain ⟨n5,L5,c5,hca,hcc⟩:=hcode
 have HCa:=Hu hca
 clear hw4 G3 G4 F4 h4 el hl4 h25 hL1 hca x17 d1
 (refine Zr (fun w':World=>w'.cell? ⟨p,24,none⟩=some (.int .i64 X.now)∧w'.cell? ⟨p,25,none⟩=some (.slice al 25 cl)∧w'.cell? ⟨w.heap.size+1,0,none⟩=some (.int .i64 f0)) (fun hHeld=>?_);refine ep 0 ?_;refine Z2 8 12 (fun K hK=>?_) (fun K hK=>?_);(focus (go_simp;(first|(go_at_call 44;refine (cW _ _ X.lists f0 _ (ft HWl.out _) (by omega) (by omega) _ _ _ HCa.out).mono ?_;rintro e w5 ⟨v5,rfl,hl5,hb5⟩;obtain ⟨a5,k5,rfl⟩:=bI hl5.at_;(try dsimp only))|(go_at_call 44;refine (cW _ _ X.lists f0 _ (ed HWl.out (Hx ((Hv w4.heap.size w4).alloc (I3 _) _))) (by omega) (by omega) _ _ _ HCa.out).mono ?_;rintro e w5 ⟨v5,rfl,hl5,hb5⟩;obtain ⟨a5,k5,rfl⟩:=bI hl5.at_;have bx0:w5.cell? ⟨w4.heap.size,0,none⟩=some (.int .i64 0):=ah hb5 (by go_simp) (by simp);have bx1:w5.cell? ⟨w4.heap.size,1,none⟩=some (.slice none 0 0):=ah hb5 (by go_simp) (by simp);have bxf:∀ n,w5.frozen? ⟨w4.heap.size,n,none⟩=false:=(fun n=>(hb5.frozen (p:=⟨w4.heap.size,n,none⟩) (by simp)).trans (by go_simp));(try dsimp only)));(try go_wp2_with fail);refine Zk hK fun hHeld=>?_;clear hK K;refine df 9 ?_;refine Zt 11 ?_;refine Z1 12 (fun K hK=>?_);go_simp;refine Zk hK fun hHeld=>?_;clear hK K));rotate_left 1;(focus (go_simp;refine Zk hK fun hHeld=>?_;clear hK K;refine Z1 8 (fun K hK=>?_);go_simp;(first|(go_at_call 44;refine (cW _ _ X.lists f0 _ (ft HWl.out _) (by omega) (by omega) _ _ _ HCa.out).mono ?_;rintro e w5 ⟨v5,rfl,hl5,hb5⟩;obtain ⟨a5,k5,rfl⟩:=bI hl5.at_;(try dsimp only))|(go_at_call 44;refine (cW _ _ X.lists f0 _ (ed HWl.out (Hx ((Hv w4.heap.size w4).alloc (I3 _) _))) (by omega) (by omega) _ _ _ HCa.out).mono ?_;rintro e w5 ⟨v5,rfl,hl5,hb5⟩;obtain ⟨a5,k5,rfl⟩:=bI hl5.at_;have bx0:w5.cell? ⟨w4.heap.size,0,none⟩=some (.int .i64 0):=ah hb5 (by go_simp) (by simp);have bx1:w5.cell? ⟨w4.heap.size,1,none⟩=some (.slice none 0 0):=ah hb5 (by go_simp) (by simp);have bxf:∀ n,w5.frozen? ⟨w4.heap.size,n,none⟩=false:=(fun n=>(hb5.frozen (p:=⟨w4.heap.size,n,none⟩) (by simp)).trans (by go_simp));(try dsimp only)));(try go_wp2_with fail);refine Zk hK fun hHeld=>?_;clear hK K;refine df 9 ?_;refine Zt 11 ?_));rotate_left 1;(all_goals (refine Z1 13 (fun K hK=>?_);go_simp;refine Zk hK fun hHeld=>?_;clear hK K;refine Zt 14 ?_));(all_goals refine Zd ?_))
 ·obtain ⟨wa,hwa⟩:∃ wa,wa=w5.alloc (.cells #[.int .i64 n5,.slice a5 L5.length k5] 61):=⟨_,rfl⟩;have bw5:Below w4.heap.size w4 w5:=I0 (aJ (Hv w4.heap.size w4)) (hb5.mono (by simp));have hz5:=bw5.size
  have bwa:Below w4.heap.size w4 wa:=by rw [hwa];exact bw5.alloc hz5 _
  have y0:wa.cell? ⟨w5.heap.size,0,none⟩=some (.int .i64 n5):=by rw [hwa];go_simp
  have y1:wa.cell? ⟨w5.heap.size,1,none⟩=some (.slice a5 L5.length k5):=by rw [hwa];go_simp
  have hk:LsK (NI B S1) wa (.slice a5 L5.length k5) L5:=gc (j7 (jH hl5) (fun b _ hB=>⟨fun hS=>by have:=HG4.out.sl b hS;simp at hB;omega,by have:=HG4.out.pB;have:=HG4.out.plt;simp at hB;omega⟩)) (by rw [hwa];simp) (fun b hb _=>by rw [hwa];exact ((Hv _ _).alloc (I3 _) _:Below w5.heap.size w5 _).block b hb);have m1:¬ w5.heap.size=p:=by omega
  have m2:¬ p=w5.heap.size:=by omega
  exact Q62
 ·obtain ⟨wa,hwa⟩:∃ wa,wa=(w5.setCell ⟨w4.heap.size,0,none⟩ (.int .i64 n5)).setCell ⟨w4.heap.size,1,none⟩ (.slice a5 L5.length k5):=⟨_,rfl⟩;have bw5:Below w4.heap.size w4 w5:=I0 (Hx ((Hv w4.heap.size w4).alloc (I3 _) _)) (hb5.mono (by simp))
  have bwa:Below w4.heap.size w4 wa:=by rw [hwa];exact (bw5.setCell (I3 _) _).setCell (I3 _) _
  have y0:wa.cell? ⟨w4.heap.size,0,none⟩=some (.int .i64 n5):=by rw [hwa];go_simp
  have y1:wa.cell? ⟨w4.heap.size,1,none⟩=some (.slice a5 L5.length k5):=by rw [hwa];go_simp
  have hk:LsK (NI B S1) wa (.slice a5 L5.length k5) L5:=j7 (gc (jH hl5) (by rw [hwa];simp) (fun b _ hB=>by rw [hwa,I2 _ _ _ _ (by simp at hB;show b≠w4.heap.size;omega),I2 _ _ _ _ (by simp at hB;show b≠w4.heap.size;omega)])) (fun b _ hB=>⟨fun hS=>by have:=HG4.out.sl b hS;simp at hB;omega,by have:=HG4.out.pB;have:=HG4.out.plt;simp at hB;omega⟩);have m1:¬ w4.heap.size=p:=by omega
  have m2:¬ p=w4.heap.size:=by omega
  exact Q62
end
end Go.Proofs.YtfliffgmeobclaaGreat
