/- Texts of the row's proof. Conditions: none. -/
import Derived.Test.YtennppmadmgfoaaGreatDoorK17
import Derived.Test.YtennppmadmgfoaaGreatDoorK27
namespace Go.Proofs.YtennppmadmgfoaaGreatDoor
open Proofs.Tryz
set_option maxRecDepth 100000
set_option maxHeartbeats 8000000
section
open Go.RowKit
theorem Q3 {p:Prop} (h:p:=by
 have HG6:=KL G6;have HFr6:=KL (HFa.out.trans F6 HS1.out);have hs6:wa.heap.size<=w6.heap.size:=F6.size;have d0:w6.cell? ⟨w.heap.size+1,0,none⟩=some (.int .i64 f0):=ae HFb6.out 0;have d1:w6.cell? ⟨w.heap.size+1,1,none⟩=some (.int .i64 f1):=ae HFb6.out 1;have d3:w6.cell? ⟨w.heap.size+1,3,none⟩=some (.int .i64 f3):=ae HFb6.out 3;have u1:w6.cell? ⟨w.heap.size,1,none⟩=some (.int .i64 o1):=ae HOb6.out 1;have u2:w6.cell? ⟨w.heap.size,2,none⟩=some (.int .i64 o2):=ae HOb6.out 2;have u3:w6.cell? ⟨w.heap.size,3,none⟩=some (.int .i64 o3):=ae HOb6.out 3;have uf:∀ n,w6.frozen? ⟨w.heap.size,n,none⟩=false:=fun n=>az HOb6.out n;have g1:¬ w.heap.size+1=w.heap.size:=by omega
 have g2:¬ w.heap.size=w.heap.size+1:=by omega
 clear G6 F6 xf x24 x25 y0 y1;refine Zr (fun w':World=>w'.cell? ⟨w.heap.size+1,0,none⟩=some (.int .i64 f0)/\w'.cell? ⟨w.heap.size+1,1,none⟩=some (.int .i64 f1)/\w'.cell? ⟨w.heap.size+1,3,none⟩=some (.int .i64 f3)) (fun hHeld=>?_);refine eD 0 ?_;refine Zt 8 ?_;refine Z1 9 (fun K hK=>?_);go_simp;refine Zk hK fun hHeld=>?_;clear hK K;refine Zt 10 ?_;refine Z1 11 (fun K hK=>?_);go_simp;refine Zk hK fun hHeld=>?_;clear hK K;refine Zt 12 ?_;refine Z1 13 (fun K hK=>?_);go_simp;refine Zk hK fun hHeld=>?_;clear hK K;refine Zd ?_;obtain ⟨w7,hw7⟩:∃ w7,w7=(((w6.setCell ⟨w.heap.size,1,none⟩ (.int .i64 f0)).setCell ⟨w.heap.size,2,none⟩ (.int .i64 f1)).setCell ⟨w.heap.size,3,none⟩ (.int .i64 f3)).drew:=⟨_,rfl⟩
 have nf:(Value.slice a1 F1.length c1).ownBlock≠some w.heap.size:=fun e=>by have h:=HAf.out _ e;omega
 have nh:V.h.ownBlock≠some w.heap.size:=fun e=>by have h:=HN.out.2.1 _ e;omega
 have no:vo.ownBlock≠some w.heap.size:=fun e=>by have h:=HN.out.2.2 _ e;omega
 have np:w.heap.size≠p:=by omega
 have l1:=sx HG6.out w.heap.size 1 (.int .i64 f0) HSo.out np nf nh no;have l2:=sx l1.1 w.heap.size 2 (.int .i64 f1) HSo.out np nf nh no;have l3:=sx l2.1 w.heap.size 3 (.int .i64 f3) HSo.out np nf nh no
 have F7:Fr S1 w6 w7:=by rw [hw7];exact ((l1.2.trans l2.2 (fun _ hx=>Or.inl hx)).trans l3.2 (fun _ hx=>Or.inl hx)).trans (Fr.of_below (S:=S1) (KN (KM _ _))) (fun _ hx=>Or.inl hx)
 have G7:=dF l3.1 (KN (KM _ _));rw [<- hw7] at G7
 have HOb7:Hid (w7.heap[w.heap.size]?=some (.cells #[.int .i64 o0,.int .i64 f0,.int .i64 f1,.int .i64 f3,.int .i64 o4,.int .i64 o5,.int .i64 o6] 75 (0,0))):=by rw [hw7];exact aR (j:=3) (aR (j:=2) (aR (j:=1) HOb6.out (.int .i64 f0)) (.int .i64 f1)) (.int .i64 f3)
 have d3:w7.cell? ⟨w.heap.size+1,3,none⟩=some (.int .i64 f3):=(Lg (w:=w6) (w':=w7) (a:=⟨w.heap.size+1,3,none⟩) (F7.block (w.heap.size+1) (by omega) HFn.out)).trans d3;have v0:w7.cell? ⟨w.heap.size,0,none⟩=some (.int .i64 o0):=ae HOb7.out 0;have v1:w7.cell? ⟨w.heap.size,1,none⟩=some (.int .i64 f0):=ae HOb7.out 1;have v2:w7.cell? ⟨w.heap.size,2,none⟩=some (.int .i64 f1):=ae HOb7.out 2;have v3:w7.cell? ⟨w.heap.size,3,none⟩=some (.int .i64 f3):=ae HOb7.out 3;have v4:w7.cell? ⟨w.heap.size,4,none⟩=some (.int .i64 o4):=ae HOb7.out 4;have v5:w7.cell? ⟨w.heap.size,5,none⟩=some (.int .i64 o5):=ae HOb7.out 5;have v6:w7.cell? ⟨w.heap.size,6,none⟩=some (.int .i64 o6):=ae HOb7.out 6;have HF7:=KL (HFr6.out.trans F7 HS1.out);have HG7:=KL G7;have hs7:w6.heap.size<=w7.heap.size:=F7.size;have hq7:w.heap.size+1<w7.heap.size:=by omega
 clear G7 l1 l2 l3 F7 u1 u2 u3 uf d0 d1;rw [<- hw7];clear hw7;go_wp2_with fail;refine (dw HG7.out ⟨o0,f0,f1,f3,o4,o5,o6⟩ (by omega)).mono ?_;rintro e w8 ⟨S8,V8,vo8,rfl,G8,rfl,F8,hS8⟩;have d3:=(Lg (w:=w7) (w':=w8) (a:=⟨w.heap.size+1,3,none⟩) (F8.block (w.heap.size+1) hq7 HFn.out)).trans d3;have HF8:=KL (HF7.out.trans F8 HS1.out);have HS8:Hid (∀ x∈S8,x∈S\/w.heap.size<=x):=fun x hx=>(hS8 x hx).elim (HS1.out x) (fun h=>Or.inr (by have:=HF7.out.size;omega))
 have eX:({ X with flows:=F1,tab:=Y,lists:=L1 }:Wd)=jy X i Y:=by unfold jy;rw [HFl.out,HL1.out,HFe.out]
 rw [eX] at G8;have HG8:=KL G8
 have hO8:(O++[(⟨o0,f0,f1,f3,o4,o5,o6⟩:Out)]).length<=1000000:=by rw [Ll,List.length_singleton];omega
 clear G8 F8 hS8 eX v0 v1 v2 v3 v4 v5 v6;go_wp2_with fail;refine (kC HG8.out f3 HBm.out HYm.out hO8).mono ?_;rintro e w9 ⟨S9,V9,vo9,rfl,G9,hV9,F9,hS9⟩;have HG9:=KL G9;have HV9:=KL hV9;have HF9:=KL (HF8.out.trans F9 HS8.out);have HS9:Hid (∀ x∈S9,x∈S\/w.heap.size<=x):=fun x hx=>(hS9 x hx).elim (HS8.out x) (fun h=>Or.inr (by have:=HF8.out.size;omega));clear G9 hV9 F9 hS9;go_wp2_with fail;refine LN (v:=.tuple #[]) (by simp [results,results77,go_sem]) rfl ⟨S9,V9,vo9,rfl,HG9.out,⟨HV9.out.2.1,HV9.out.2.2⟩,HF9.out,HS9.out⟩):p:=h
theorem Q66 {p:Prop} (h:p:=by
 have k5:LsK (NI B S) (w4.setCell ⟨p,24,none⟩ (.int .i64 X.now)) (.slice a4 LD.length k4) LD:=gu HK4.out (by simp) (fun b' _ hb'=>KV _ _ _ _ (fun e=>hb'.1 (by have e':b'=p:=e;rw [e'];exact HG4.out.sp)));have G6:=iY G5 25 (.slice a4 LD.length k4) { X with flows:=F',lists:=LD } { V with w:=.slice a4 LD.length k4 } rfl rfl rfl rfl rfl rfl { G5.ro with wh:=k5 };have HG6:=KL G6;have HF6:=KL (((HF3.out.trans (Fr.of_below HB4.out) (fun _ hx=>Or.inl hx)).trans (di HS2.out 24 (.int .i64 X.now)) (fun _ hx=>Or.inl hx)).trans (di HS2.out 25 (.slice a4 LD.length k4)) (fun _ hx=>Or.inl hx):Fr S2 w _);clear G5 k5 G6;go_wp2_with fail;refine LN (v:=.tuple #[]) (by simp [results,results66,go_sem]) rfl ⟨_,rfl,HG6.out,⟨rfl,rfl,rfl⟩,HF6.out,by rw [KV _ _ _ _ (by show bf≠p;exact hbp),KV _ _ _ _ (by show bf≠p;exact hbp)];exact (HB4.out.block _ hbc).trans HBc.out⟩):p:=h
theorem Q8 {p:Prop} (h:p:=by
 rw [<- hwa];clear hwa hb1 hl1 bw1;have x16:=ah bwa x16 hp;have x24:=ah bwa x24 hp;have x25:=ah bwa x25 hp;have xf:∀ n,wa.frozen? ⟨p,n,none⟩=false:=fun n=>(bwa.frozen (p:=⟨p,n,none⟩) hp).trans (xf n);have c0:=ah bwa c0 hbf;have c6:=ah bwa c6 hbf;have cf:wa.frozen? ⟨bf,o+6,none⟩=false:=(bwa.frozen (p:=⟨bf,o+6,none⟩) hbf).trans cf;have hbfa:wa.heap[bf]?=w.heap[bf]?:=bwa.block bf hbf;have HWa:=KL bwa;have HBfa:=KL hbfa;have HGa:=KL (dF HG.out bwa);have HK:=KL hk;clear bwa hbfa HG hk;go_wp2_with fail;obtain ⟨wc,hwc⟩:∃ wc,wc=((wa.setCell ⟨p,24,none⟩ (.int .i64 X.now)).setCell ⟨p,25,none⟩ (.slice a1 L1.length k1)).setCell ⟨bf,o+6,none⟩ (.int .i64 d):=⟨_,rfl⟩;rw [<- hwc]
 have G1:=iY HGa.out 24 (.int .i64 X.now) X V (by
  have e:dz X V=dz { X with wnow:=X.now } V:=(by unfold dz;rw [Hw.out])
  conv=>rhs;rw [e]
  rfl) rfl rfl rfl rfl rfl HGa.out.ro
 have k2:LsK (NI B S) (wa.setCell ⟨p,24,none⟩ (.int .i64 X.now)) (.slice a1 L1.length k1) L1:=gu HK.out (by simp) (fun b' _ hb'=>KV _ _ _ _ (fun e=>hb'.1 (by have e':b'=p:=e;rw [e'];exact HGa.out.sp)));have G2:=iY G1 25 (.slice a1 L1.length k1) { X with lists:=L1 } { V with w:=.slice a1 L1.length k1 } rfl rfl rfl rfl rfl rfl { G1.ro with wh:=k2 };have G3:=HSt.out _ _ _ G2 rfl rfl rfl (by rw [KV _ _ _ _ (by show bf≠p;exact hbp),KV _ _ _ _ (by show bf≠p;exact hbp)];exact HBfa.out);rw [HD.out] at hwc;rw [<- hwc] at G3;have q24:=G3.1.gr.c 24 (v:=.int .i64 X.now) (by unfold dz;rw [<- Hw.out];rfl);have q25:=G3.1.gr.c 25 (v:=.slice a1 L1.length k1) rfl
 have q0:wc.cell? ⟨bf,o,none⟩=some (.int .i64 slot):=by rw [hwc];go_simp
 have q6:wc.cell? ⟨bf,o+6,none⟩=some (.int .i64 d):=by rw [hwc,HD.out];go_simp
 have HBc:=KL (show wc.heap[bf]?=(w.setCell ⟨bf,o+6,none⟩ (.int .i64 (X.now+span))).heap[bf]? from by rw [hwc];exact yE (by rw [KV _ _ _ _ (by show bf≠p;exact hbp),KV _ _ _ _ (by show bf≠p;exact hbp)];exact HBfa.out));have qf:∀ n,wc.frozen? ⟨p,n,none⟩=false:=fun n=>az G3.1.bk n
 have hzc:w.heap.size<=wc.heap.size:=by have:=HWa.out.size;rw [hwc];simpa using this
 have HL4:=KL (G3.1.gr.1.wh.at_:lQ wc (.slice a1 L1.length k1) L1);have HG3:=KL G3.1;have HF3:=KL (((Fr.of_below HWa.out).trans ((di HS2.out 24 (.int .i64 X.now)).trans (di HS2.out 25 (.slice a1 L1.length k1)) (fun _ hx=>Or.inl hx)) (fun _ hx=>Or.inl hx):Fr S2 w _).trans G3.2 (fun _ hx=>Or.inl hx));clear G1 k2 G2 G3 HGa HK HBfa hwc x16 x24 x25 xf c0 c6 cf b0 b1;have hpc:p<wc.heap.size:=by omega
 have hbc:bf<wc.heap.size:=by omega
 refine Zr (fun w':World=>w'.cell? ⟨bf,o,none⟩=some (.int .i64 slot)/\w'.cell? ⟨bf,o+6,none⟩=some (.int .i64 d)) (fun hHeld=>?_);refine eY 0 ?_;refine Zt 4 ?_;refine eD 6 ?_;refine Zt 14 ?_;refine Z1 5 (fun K hK=>?_);go_simp;refine Zk hK fun hHeld=>?_;clear hK K;refine Z1 15 (fun K hK=>?_);go_simp;(go_at_call 105;refine (xz _ X.now L1 slot d _ (fD HL4.out _) hA1 hA2 _ _ _ HAr.out).mono ?_;rintro e w4 ⟨v4,rfl,hl4,hb4⟩;obtain ⟨a4,k4,rfl⟩:=bL hl4.at_;have bw4:Below wc.heap.size wc w4:=KS (aM (KM wc.heap.size wc)) (hb4.mono (by simp));have q24:=ah bw4 q24 hpc;have q25:=ah bw4 q25 hpc;have qf:∀ n,w4.frozen? ⟨p,n,none⟩=false:=(fun n=>(bw4.frozen (p:=⟨p,n,none⟩) hpc).trans (qf n));have HG4:=KL (dF HG3.out bw4);have HB4:=KL bw4;have HK4:=KL (je (jS hl4) (fun b _ hB=>⟨fun hS=>by have:=HG3.out.sl b hS;simp at hB;omega,by have:=HG3.out.pB;have:=HG3.out.plt;simp at hB;omega⟩):LsK (NI B S) w4 _ LD);clear hl4 bw4;(try dsimp only));(try go_wp2_with fail);refine Zk hK fun hHeld=>?_;clear hK K;refine eY 16 ?_;refine dl 20 ?_;refine Z1 22 (fun K hK=>?_);go_simp;refine Zk hK fun hHeld=>?_;clear hK K;refine Zd ?_
 have G5:=iY HG4.out 24 (.int .i64 X.now) { X with lists:=L1,flows:=F' } { V with w:=.slice a1 L1.length k1 } (by
  have e:dz { X with lists:=L1,flows:=F' } { V with w:=.slice a1 L1.length k1 }=dz { X with lists:=L1,flows:=F',wnow:=X.now } { V with w:=.slice a1 L1.length k1 }:=(by unfold dz;simp only;rw [Hw.out])
  conv=>rhs;rw [e]
  rfl) rfl rfl rfl rfl rfl HG4.out.ro
 exact Q66):p:=h
theorem Q9 {p:Prop} (h:p:=by
 rw [<- hwa];clear hwa hb1 hl1 bw1;have x16:=ah bwa x16 hp;have x24:=ah bwa x24 hp;have x25:=ah bwa x25 hp;have xf:∀ n,wa.frozen? ⟨p,n,none⟩=false:=fun n=>(bwa.frozen (p:=⟨p,n,none⟩) hp).trans (xf n);have c0:=ah bwa c0 hbf;have c6:=ah bwa c6 hbf;have cf:wa.frozen? ⟨bf,o+6,none⟩=false:=(bwa.frozen (p:=⟨bf,o+6,none⟩) hbf).trans cf;have hbfa:wa.heap[bf]?=w.heap[bf]?:=bwa.block bf hbf;have HWa:=KL bwa;have HBfa:=KL hbfa;have HGa:=KL (dF HG.out bwa);clear bwa hbfa HG;go_wp2_with fail;obtain ⟨wc,hwc⟩:∃ wc,wc=wa.setCell ⟨bf,o+6,none⟩ (.int .i64 d):=⟨_,rfl⟩;rw [<- hwc];have G3:=HSt.out _ _ _ HGa.out rfl rfl rfl HBfa.out;rw [HD.out] at hwc;rw [<- hwc] at G3;have q24:=G3.1.gr.c 24 (v:=.int .i64 X.now) (by unfold dz;rw [<- Hw.out];rfl)
 have q25:wc.cell? ⟨p,25,none⟩=some (.slice al 25 cl):=by rw [hwc];go_simp
 have q0:wc.cell? ⟨bf,o,none⟩=some (.int .i64 slot):=by rw [hwc];go_simp
 have q6:wc.cell? ⟨bf,o+6,none⟩=some (.int .i64 d):=by rw [hwc,HD.out];go_simp
 have HBc:=KL (show wc.heap[bf]?=(w.setCell ⟨bf,o+6,none⟩ (.int .i64 (X.now+span))).heap[bf]? from by rw [hwc];exact yE HBfa.out);have qf:∀ n,wc.frozen? ⟨p,n,none⟩=false:=fun n=>az G3.1.bk n
 have hzc:w.heap.size<=wc.heap.size:=by have:=HWa.out.size;rw [hwc];simpa using this
 have HL4:Hid (lQ wc (.slice al 25 cl) L1):=by have h:=G3.1.gr.1.wh.at_;rw [show ({ X with flows:=F' }:Wd).lists=X.lists from rfl,HEl.out,HL25.out,<- HL1.out] at h;exact h
 have HG3:=KL G3.1;have HF3:=KL ((Fr.of_below HWa.out:Fr S2 w _).trans G3.2 (fun _ hx=>Or.inl hx));clear G3 HGa HBfa hwc x16 x24 x25 xf c0 c6 cf b0 b1;have hpc:p<wc.heap.size:=by omega
 have hbc:bf<wc.heap.size:=by omega
 refine Zr (fun w':World=>w'.cell? ⟨bf,o,none⟩=some (.int .i64 slot)/\w'.cell? ⟨bf,o+6,none⟩=some (.int .i64 d)) (fun hHeld=>?_);refine eY 0 ?_;refine Zt 4 ?_;refine eD 6 ?_;refine Zt 14 ?_;refine Z1 5 (fun K hK=>?_);go_simp;refine Zk hK fun hHeld=>?_;clear hK K;refine Z1 15 (fun K hK=>?_);go_simp;(go_at_call 105;refine (xz _ X.now L1 slot d _ (fD HL4.out _) hA1 hA2 _ _ _ HAr.out).mono ?_;rintro e w4 ⟨v4,rfl,hl4,hb4⟩;obtain ⟨a4,k4,rfl⟩:=bL hl4.at_;have bw4:Below wc.heap.size wc w4:=KS (aM (KM wc.heap.size wc)) (hb4.mono (by simp));have q24:=ah bw4 q24 hpc;have q25:=ah bw4 q25 hpc;have qf:∀ n,w4.frozen? ⟨p,n,none⟩=false:=(fun n=>(bw4.frozen (p:=⟨p,n,none⟩) hpc).trans (qf n));have HG4:=KL (dF HG3.out bw4);have HB4:=KL bw4;have HK4:=KL (je (jS hl4) (fun b _ hB=>⟨fun hS=>by have:=HG3.out.sl b hS;simp at hB;omega,by have:=HG3.out.pB;have:=HG3.out.plt;simp at hB;omega⟩):LsK (NI B S) w4 _ LD);clear hl4 bw4;(try dsimp only));(try go_wp2_with fail);refine Zk hK fun hHeld=>?_;clear hK K;refine eY 16 ?_;refine dl 20 ?_;refine Z1 22 (fun K hK=>?_);go_simp;refine Zk hK fun hHeld=>?_;clear hK K;refine Zd ?_
 have G5:=iY HG4.out 24 (.int .i64 X.now) { X with flows:=F' } V (by
  have e:dz { X with flows:=F' } V=dz { X with flows:=F',wnow:=X.now } V:=(by unfold dz;simp only;rw [Hw.out])
  conv=>rhs;rw [e]
  rfl) rfl rfl rfl rfl rfl HG4.out.ro
 exact Q66):p:=h
theorem Q62 {p:Prop} (h:p:=by
 rw [<- hwa];clear hwa hb5 hl5 bw5;have hOb:wa.heap[w.heap.size]?=some (.cells #[.int .i64 o0,.int .i64 o1,.int .i64 o2,.int .i64 o3,.int .i64 o4,.int .i64 o5,.int .i64 o6] 75 (0,0)):=(bwa.block _ (by omega)).trans HOb.out;have hFb:wa.heap[w.heap.size+1]?=some (.cells #[.int .i64 f0,.int .i64 f1,.int .i64 f2,.int .i64 f3,.bool f4,.int .i64 f5,.int .i64 f6] 170 (0,0)):=(bwa.block _ (by omega)).trans HFb.out;have HGa:=KL (dF HG4.out bwa);have HFa:=KL (HF4.out.trans (Fr.of_below bwa:Fr S1 w4 wa) HS1.out);have hsa:=bwa.size;have xf:∀ n,wa.frozen? ⟨p,n,none⟩=false:=fun n=>az HGa.out.bk n;have x24:=ah bwa x24 hp4;have x25:=ah bwa x25 hp4;have HOa:=KL hOb;have HFa2:=KL hFb;have HKa:=KL hk;clear bwa hOb hFb hk d0 HOb HFb HG4 HF4;rcases hcc with ⟨rfl,rfl,e5⟩|⟨rfl,hcl⟩
 ·have E5:=KL e5;clear e5;go_wp2_with fail;obtain ⟨w6,hw6⟩:∃ w6,w6=(wa.setCell ⟨p,24,none⟩ (.int .i64 X.now)).setCell ⟨p,25,none⟩ (.slice a5 L5.length k5):=⟨_,rfl⟩;rw [<- hw6]
  have G5:=iY HGa.out 24 (.int .i64 X.now) { X with flows:=F1,tab:=Y } { V with f:=.slice a1 F1.length c1,t:=.slice a3 Y.length c3 } (by
   have e:dz { X with flows:=F1,tab:=Y } { V with f:=.slice a1 F1.length c1,t:=.slice a3 Y.length c3 }=dz { X with flows:=F1,tab:=Y,wnow:=X.now } { V with f:=.slice a1 F1.length c1,t:=.slice a3 Y.length c3 }:=(by unfold dz;simp only;rw [HWn.out])
   conv=>rhs;rw [e]
   rfl) rfl rfl rfl rfl rfl HGa.out.ro
  have k6:LsK (NI B S1) (wa.setCell ⟨p,24,none⟩ (.int .i64 X.now)) (.slice a5 L5.length k5) L5:=gu HKa.out (by simp) (fun b' _ hb'=>KV _ _ _ _ (fun e=>hb'.1 (by have e':b'=p:=e;rw [e'];exact HGa.out.sp)));have G6:=iY G5 25 (.slice a5 L5.length k5) { X with flows:=F1,tab:=Y,lists:=L5 } { V with f:=.slice a1 F1.length c1,t:=.slice a3 Y.length c3,w:=.slice a5 L5.length k5 } rfl rfl rfl rfl rfl rfl { G5.ro with wh:=k6 };rw [<- hw6,E5.out] at G6
  have F6:Fr S1 wa w6:=by rw [hw6];exact (di HGa.out.sp 24 (.int .i64 X.now)).trans (di HGa.out.sp 25 (.slice a5 L5.length k5)) (fun _ hx=>Or.inl hx)
  have HOb6:Hid (w6.heap[w.heap.size]?=some (.cells #[.int .i64 o0,.int .i64 o1,.int .i64 o2,.int .i64 o3,.int .i64 o4,.int .i64 o5,.int .i64 o6] 75 (0,0))):=by rw [hw6];exact (KV _ _ _ _ (by show w.heap.size≠p;omega)).trans ((KV _ _ _ _ (by show w.heap.size≠p;omega)).trans HOa.out)
  have HFb6:Hid (w6.heap[w.heap.size+1]?=some (.cells #[.int .i64 f0,.int .i64 f1,.int .i64 f2,.int .i64 f3,.bool f4,.int .i64 f5,.int .i64 f6] 170 (0,0))):=by rw [hw6];exact (KV _ _ _ _ (by show w.heap.size+1≠p;omega)).trans ((KV _ _ _ _ (by show w.heap.size+1≠p;omega)).trans HFa2.out)
  clear hw6 G5 k6;exact Q3
 ·go_wp2_with fail;obtain ⟨w6,hw6⟩:∃ w6,w6=wa:=⟨_,rfl⟩;rw [<- hw6];have e:({ X with flows:=F1,tab:=Y }:Wd)={ X with flows:=F1,tab:=Y,lists:=L1 }:=by rw [hcl]
  have G6:=HGa.out;rw [<- hw6,e] at G6
  have F6:Fr S1 wa w6:=by rw [hw6];exact Fr.refl _ _
  have HOb6:Hid (w6.heap[w.heap.size]?=some (.cells #[.int .i64 o0,.int .i64 o1,.int .i64 o2,.int .i64 o3,.int .i64 o4,.int .i64 o5,.int .i64 o6] 75 (0,0))):=by rw [hw6];exact HOa.out
  have HFb6:Hid (w6.heap[w.heap.size+1]?=some (.cells #[.int .i64 f0,.int .i64 f1,.int .i64 f2,.int .i64 f3,.bool f4,.int .i64 f5,.int .i64 f6] 170 (0,0))):=by rw [hw6];exact HFa2.out
  clear hw6 e;exact Q3):p:=h
def jP (now:Int) (LL:List (List Tm)) (slot span:Int):List (List Tm):=bN now ((LL.flatten.filter fun t=>!(t.id == slot))++[⟨now+span,slot⟩])
theorem vH {now:Int} {LL:List (List Tm)} (h:WhMay now LL) (slot:Int):WhMay now (bN now (LL.flatten.filter fun t=>!(t.id == slot)))/\(bN now (LL.flatten.filter fun t=>!(t.id == slot))).flatten.Perm (LL.flatten.filter fun t=>!(t.id == slot)):=
 qF h.1 h.2.1 (fun t z=>h.tm t (List.mem_filter.1 z).1) ((List.filter_sublist.map Tm.id).nodup h.2.2.2.2)
theorem Ju {now:Int} {LL:List (List Tm)} {slot span:Int} (h:∀ t∈LL.flatten,¬ t.id=slot):bN now (LL.flatten++[⟨now+span,slot⟩])=jP now LL slot span:=by
 unfold jP;rw [List.filter_eq_self.2 (fun t z=>by simpa using h t z)]
theorem Jt {now:Int} {LL:List (List Tm)} (h:WhMay now LL) (slot span:Int):bN now ((bN now (LL.flatten.filter fun t=>!(t.id == slot))).flatten++[⟨now+span,slot⟩])=jP now LL slot span:=
 fN ((vH h slot).2.append_right _)
theorem can_no {now:Int} {LL:List (List Tm)} (h:WhMay now LL) (slot:Int):∀ t∈(bN now (LL.flatten.filter fun t=>!(t.id == slot))).flatten,¬ t.id=slot:=fun t z=>by
 have:=(List.mem_filter.1 ((vH h slot).2.mem_iff.1 z)).2;simpa using this
theorem yE {h z:World} {b j:Nat} {u:Value} (E:h.heap[b]?=z.heap[b]?):(h.setCell ⟨b,j,none⟩ u).heap[b]?=(z.setCell ⟨b,j,none⟩ u).heap[b]?:=by
 simp only [World.setCell,Array.getElem?_modify,if_true];rw [E]
def Kd (B p h o:Nat) (d:Int) (w:World) (E:List Nat) (I:Wd) (O:List Out) (S:List Nat) (V:Vs) (vo:Value) (e:Ending) (w':World):Prop:=∃ z,e=.returned (.tuple #[])/\G B p w' I O S z vo/\KG V z/\Fr E w w'/\w'.heap[h]?=(w.setCell ⟨h,o+6,none⟩ (.int .i64 d)).heap[h]?
theorem fD {w:World} {v:Value} {LL:List (List Tm)} (h:lQ w v LL) (n:Nat):lQ (w.drewN n) v LL:=eo h (aM (KM _ _))
theorem mW {B p:Nat} {w:World} {X:Wd} {O:List Out} {S:List Nat} {V:Vs} {vo:Value} (h:G B p w X O S V vo) (bf o:Nat) (slot span:Int) (F':List Fl) (S2:List Nat) (ac:p∈S2) (hbf:bf<w.heap.size) (hbp:bf≠p)
  (c0:w.cell? ⟨bf,o,none⟩=some (.int .i64 slot)) (d0:Int) (c6:w.cell? ⟨bf,o+6,none⟩=some (.int .i64 d0)) (cf:w.frozen? ⟨bf,o+6,none⟩=false)
  (ad:∀ w' X1 V1,G B p w' X1 O S V1 vo->X1.flows=X.flows->V1.f=V.f->V1.h=V.h->w'.heap[bf]?=w.heap[bf]?->G B p (w'.setCell ⟨bf,o+6,none⟩ (.int .i64 (X.now+span))) { X1 with flows:=F' } O S V1 vo/\Fr S2 w' (w'.setCell ⟨bf,o+6,none⟩ (.int .i64 (X.now+span))))
  (hm:WhMay X.now X.lists) (hw:X.wnow=X.now) (Z:dN ⟨X.now+span,slot⟩ X.now) :
  Calls prog 66 #[.pointer (some ⟨p,0,none⟩),.pointer (some ⟨bf,o,none⟩),.int .i64 span] w
   (Kd B p bf o (X.now+span) w S2 { X with flows:=F',lists:=jP X.now X.lists slot span } O S V vo):=by
 have a0:=h.gr
 have x24:=a0.c 24 (v:=.int .i64 X.wnow) rfl
 have x25:=a0.c 25 (v:=V.w) rfl
 have x16:=a0.c 16 (v:=.int .i64 X.now) rfl
 rw [hw] at x24
 have xf:∀ n,w.frozen? ⟨p,n,none⟩=false:=fun n=>az h.bk n
 have hl:=a0.1.wh.at_
 obtain ⟨al,cl,el⟩:=bL hl
 have HEl:=KL el
 rw [el] at x25 hl
 have I:=KL hl
 have a7:=hm.2.2.1
 have an:=hm.tot
 have hp:=h.plt
 have HG:=KL h
 have Y:=KL hm
 have aa:=KL Z
 have HSt:=KL ad
 have HS2:=KL ac
 obtain ⟨d,hd⟩:∃ d,d=X.now+span:=⟨_,rfl⟩
 have am:0<=d/\d<=1099511627776:=by have h1:=Z.1;have h2:=Z.2.2.1;have h3:=hm.1;simp only at h1 h2;omega
 have ew:IntKind.i64.wrap (X.now+span)=d:=by rw [IntKind.wrap_i64];omega
 have HD:=KL hd
 have Hw:=KL hw
 have HL25:=KL a7
 have ak:X.lists.length<=1048576:=by omega
 rw [a7] at x25 I
 clear h hm Z ad ac el hl a0 hd a7 hw
 have ag:¬ p=bf:=fun e=>hbp e.symm
 by_cases hex:∃ W∈X.lists.flatten,W.id=slot
 ·obtain ⟨L1,z⟩:∃ L1,L1=bN X.now (X.lists.flatten.filter fun W=>!(W.id == slot)):=⟨_,rfl⟩;have E:=KL (show CanAns X.now X.lists slot X.now L1 0 from Or.inr (Or.inr ⟨Y.out,hex,rfl,z,rfl⟩));obtain ⟨LD,J⟩:∃ LD,LD=jP X.now X.lists slot span:=⟨_,rfl⟩;have a8:=vH Y.out slot;have HAr:Hid (ArmAns X.now L1 ⟨d,slot⟩ X.now LD 0):=Or.inr (Or.inr (Or.inr ⟨by rw [z];exact a8.1,by rw [HD.out];exact aa.out,by rw [z];exact can_no Y.out slot,rfl,by rw [J,z,HD.out];exact (Jt Y.out slot span).symm,rfl⟩))
  have hA1:L1.length<=1048576:=by rw [z,dd];omega
  have hA2:L1.flatten.length<=1048576:=by rw [z];have:=a8.1.tot;omega
  have af:=KL J;rw [<- J];clear hex z a8 J;go_in;go_wp2_with fail;refine Zr (fun w':World=>w'.cell? ⟨p,24,none⟩=some (.int .i64 X.now)/\w'.cell? ⟨p,25,none⟩=some (.slice al 25 cl)/\w'.cell? ⟨bf,o,none⟩=some (.int .i64 slot)) (fun hHeld=>?_);refine eD 0 ?_;refine dl 8 ?_;refine Z2 10 14 (fun K hK=>?_) (fun K hK=>?_);(focus (go_simp;(first|(go_at_call 50;refine (dg _ _ X.lists slot _ (fD I.out _) (by omega) (by omega) _ _ _ E.out).mono ?_;rintro e w1 ⟨v1,rfl,hl1,hb1⟩;obtain ⟨a1,k1,rfl⟩:=bL hl1.at_;(try dsimp only))|(go_at_call 50;refine (dg _ _ X.lists slot _ (eo I.out (KN ((KM w.heap.size w).alloc (KY _) _))) (by omega) (by omega) _ _ _ E.out).mono ?_;rintro e w1 ⟨v1,rfl,hl1,hb1⟩;obtain ⟨a1,k1,rfl⟩:=bL hl1.at_;have a3:w1.cell? ⟨w.heap.size,0,none⟩=some (.int .i64 0):=ah hb1 (by go_simp) (by simp);have a5:w1.cell? ⟨w.heap.size,1,none⟩=some (.slice none 0 0):=ah hb1 (by go_simp) (by simp);have a6:∀ n,w1.frozen? ⟨w.heap.size,n,none⟩=false:=(fun n=>(hb1.frozen (p:=⟨w.heap.size,n,none⟩) (by simp)).trans (by go_simp));(try dsimp only)));(try go_wp2_with fail);refine Zk hK fun hHeld=>?_;clear hK K;refine dl 11 ?_;refine Zt 13 ?_;refine Z1 14 (fun K hK=>?_);go_simp;refine Zk hK fun hHeld=>?_;clear hK K));rotate_left 1;(focus (go_simp;refine Zk hK fun hHeld=>?_;clear hK K;refine Z1 10 (fun K hK=>?_);go_simp;(first|(go_at_call 50;refine (dg _ _ X.lists slot _ (fD I.out _) (by omega) (by omega) _ _ _ E.out).mono ?_;rintro e w1 ⟨v1,rfl,hl1,hb1⟩;obtain ⟨a1,k1,rfl⟩:=bL hl1.at_;(try dsimp only))|(go_at_call 50;refine (dg _ _ X.lists slot _ (eo I.out (KN ((KM w.heap.size w).alloc (KY _) _))) (by omega) (by omega) _ _ _ E.out).mono ?_;rintro e w1 ⟨v1,rfl,hl1,hb1⟩;obtain ⟨a1,k1,rfl⟩:=bL hl1.at_;have a3:w1.cell? ⟨w.heap.size,0,none⟩=some (.int .i64 0):=ah hb1 (by go_simp) (by simp);have a5:w1.cell? ⟨w.heap.size,1,none⟩=some (.slice none 0 0):=ah hb1 (by go_simp) (by simp);have a6:∀ n,w1.frozen? ⟨w.heap.size,n,none⟩=false:=(fun n=>(hb1.frozen (p:=⟨w.heap.size,n,none⟩) (by simp)).trans (by go_simp));(try dsimp only)));(try go_wp2_with fail);refine Zk hK fun hHeld=>?_;clear hK K;refine dl 11 ?_;refine Zt 13 ?_));rotate_left 1;(all_goals (refine Z1 15 (fun K hK=>?_);go_simp;refine Zk hK fun hHeld=>?_;clear hK K;refine Zt 16 ?_));(all_goals refine Zd ?_)
  ·obtain ⟨wa,hwa⟩:∃ wa,wa=w1.alloc (.cells #[.int .i64 X.now,.slice a1 L1.length k1] 54):=⟨_,rfl⟩;have bw1:Below w.heap.size w w1:=KS (aM (KM w.heap.size w)) (hb1.mono (by simp));have a9:=bw1.size
   have bwa:Below w.heap.size w wa:=by rw [hwa];exact bw1.alloc a9 _
   have b0:wa.cell? ⟨w1.heap.size,0,none⟩=some (.int .i64 X.now):=by rw [hwa];go_simp
   have b1:wa.cell? ⟨w1.heap.size,1,none⟩=some (.slice a1 L1.length k1):=by rw [hwa];go_simp
   have hk:LsK (NI B S) wa (.slice a1 L1.length k1) L1:=gu (je (jS hl1) (fun b _ hB=>⟨fun hS=>by have:=HG.out.sl b hS;simp at hB;omega,by have:=HG.out.pB;have:=HG.out.plt;simp at hB;omega⟩)) (by rw [hwa];simp) (fun b hb _=>by rw [hwa];exact ((KM _ _).alloc (KY _) _:Below w1.heap.size w1 _).block b hb);have n1:¬ w1.heap.size=p:=by omega
   have n2:¬ p=w1.heap.size:=by omega
   have n3:¬ w1.heap.size=bf:=by omega
   have n4:¬ bf=w1.heap.size:=by omega
   exact Q8
  ·obtain ⟨wa,hwa⟩:∃ wa,wa=(w1.setCell ⟨w.heap.size,0,none⟩ (.int .i64 X.now)).setCell ⟨w.heap.size,1,none⟩ (.slice a1 L1.length k1):=⟨_,rfl⟩;have bw1:Below w.heap.size w w1:=KS (KN ((KM w.heap.size w).alloc (KY _) _)) (hb1.mono (by simp))
   have bwa:Below w.heap.size w wa:=by rw [hwa];exact (bw1.setCell (KY _) _).setCell (KY _) _
   have b0:wa.cell? ⟨w.heap.size,0,none⟩=some (.int .i64 X.now):=by rw [hwa];go_simp
   have b1:wa.cell? ⟨w.heap.size,1,none⟩=some (.slice a1 L1.length k1):=by rw [hwa];go_simp
   have hk:LsK (NI B S) wa (.slice a1 L1.length k1) L1:=je (gu (jS hl1) (by rw [hwa];simp) (fun b _ hB=>by rw [hwa,KV _ _ _ _ (by simp at hB;show b≠w.heap.size;omega),KV _ _ _ _ (by simp at hB;show b≠w.heap.size;omega)])) (fun b _ hB=>⟨fun hS=>by have:=HG.out.sl b hS;simp at hB;omega,by have:=HG.out.pB;have:=HG.out.plt;simp at hB;omega⟩);have n1:¬ w.heap.size=p:=by omega
   have n2:¬ p=w.heap.size:=by omega
   have n3:¬ w.heap.size=bf:=by omega
   have n4:¬ bf=w.heap.size:=by omega
   exact Q8
 ·obtain ⟨U,ab⟩:∃ U:List (List Tm),U=[]:=⟨_,rfl⟩;have a2:∀ W∈X.lists.flatten,¬ W.id=slot:=fun W Z e=>hex ⟨W,Z,e⟩;have E:=KL (show CanAns X.now X.lists slot 0 U 8 from Or.inr (Or.inl ⟨Y.out,a2,rfl,ab,rfl⟩));obtain ⟨L1,z⟩:∃ L1,L1=X.lists:=⟨_,rfl⟩;have HL1:=KL z;obtain ⟨LD,J⟩:∃ LD,LD=jP X.now X.lists slot span:=⟨_,rfl⟩;have HAr:Hid (ArmAns X.now L1 ⟨d,slot⟩ X.now LD 0):=Or.inr (Or.inr (Or.inr ⟨by rw [z];exact Y.out,by rw [HD.out];exact aa.out,by rw [z];exact a2,rfl,by rw [J,z,HD.out];exact (Ju a2).symm,rfl⟩))
  have hA1:L1.length<=1048576:=by rw [z];omega
  have hA2:L1.flatten.length<=1048576:=by rw [z];omega
  have af:=KL J;rw [<- J];clear hex z a2 J ab;go_in;go_wp2_with fail;refine Zr (fun w':World=>w'.cell? ⟨p,24,none⟩=some (.int .i64 X.now)/\w'.cell? ⟨p,25,none⟩=some (.slice al 25 cl)/\w'.cell? ⟨bf,o,none⟩=some (.int .i64 slot)) (fun hHeld=>?_);refine eD 0 ?_;refine dl 8 ?_;refine Z2 10 14 (fun K hK=>?_) (fun K hK=>?_);(focus (go_simp;(first|(go_at_call 50;refine (dg _ _ X.lists slot _ (fD I.out _) (by omega) (by omega) _ _ _ E.out).mono ?_;rintro e w1 ⟨v1,rfl,hl1,hb1⟩;obtain ⟨a1,k1,rfl⟩:=bL hl1.at_;(try dsimp only))|(go_at_call 50;refine (dg _ _ X.lists slot _ (eo I.out (KN ((KM w.heap.size w).alloc (KY _) _))) (by omega) (by omega) _ _ _ E.out).mono ?_;rintro e w1 ⟨v1,rfl,hl1,hb1⟩;obtain ⟨a1,k1,rfl⟩:=bL hl1.at_;have a3:w1.cell? ⟨w.heap.size,0,none⟩=some (.int .i64 0):=ah hb1 (by go_simp) (by simp);have a5:w1.cell? ⟨w.heap.size,1,none⟩=some (.slice none 0 0):=ah hb1 (by go_simp) (by simp);have a6:∀ n,w1.frozen? ⟨w.heap.size,n,none⟩=false:=(fun n=>(hb1.frozen (p:=⟨w.heap.size,n,none⟩) (by simp)).trans (by go_simp));(try dsimp only)));(try go_wp2_with fail);refine Zk hK fun hHeld=>?_;clear hK K;refine dl 11 ?_;refine Zt 13 ?_;refine Z1 14 (fun K hK=>?_);go_simp;refine Zk hK fun hHeld=>?_;clear hK K));rotate_left 1;(focus (go_simp;refine Zk hK fun hHeld=>?_;clear hK K;refine Z1 10 (fun K hK=>?_);go_simp;(first|(go_at_call 50;refine (dg _ _ X.lists slot _ (fD I.out _) (by omega) (by omega) _ _ _ E.out).mono ?_;rintro e w1 ⟨v1,rfl,hl1,hb1⟩;obtain ⟨a1,k1,rfl⟩:=bL hl1.at_;(try dsimp only))|(go_at_call 50;refine (dg _ _ X.lists slot _ (eo I.out (KN ((KM w.heap.size w).alloc (KY _) _))) (by omega) (by omega) _ _ _ E.out).mono ?_;rintro e w1 ⟨v1,rfl,hl1,hb1⟩;obtain ⟨a1,k1,rfl⟩:=bL hl1.at_;have a3:w1.cell? ⟨w.heap.size,0,none⟩=some (.int .i64 0):=ah hb1 (by go_simp) (by simp);have a5:w1.cell? ⟨w.heap.size,1,none⟩=some (.slice none 0 0):=ah hb1 (by go_simp) (by simp);have a6:∀ n,w1.frozen? ⟨w.heap.size,n,none⟩=false:=(fun n=>(hb1.frozen (p:=⟨w.heap.size,n,none⟩) (by simp)).trans (by go_simp));(try dsimp only)));(try go_wp2_with fail);refine Zk hK fun hHeld=>?_;clear hK K;refine dl 11 ?_;refine Zt 13 ?_));rotate_left 1;(all_goals (refine Z1 15 (fun K hK=>?_);go_simp;refine Zk hK fun hHeld=>?_;clear hK K;refine Zt 16 ?_));(all_goals refine Zd ?_)
  ·obtain ⟨wa,hwa⟩:∃ wa,wa=w1.alloc (.cells #[.int .i64 0,.slice a1 U.length k1] 54):=⟨_,rfl⟩;have bw1:Below w.heap.size w w1:=KS (aM (KM w.heap.size w)) (hb1.mono (by simp));have a9:=bw1.size
   have bwa:Below w.heap.size w wa:=by rw [hwa];exact bw1.alloc a9 _
   have b0:wa.cell? ⟨w1.heap.size,0,none⟩=some (.int .i64 0):=by rw [hwa];go_simp
   have b1:wa.cell? ⟨w1.heap.size,1,none⟩=some (.slice a1 U.length k1):=by rw [hwa];go_simp
   have n1:¬ w1.heap.size=p:=by omega
   have n2:¬ p=w1.heap.size:=by omega
   have n3:¬ w1.heap.size=bf:=by omega
   have n4:¬ bf=w1.heap.size:=by omega
   exact Q9
  ·obtain ⟨wa,hwa⟩:∃ wa,wa=(w1.setCell ⟨w.heap.size,0,none⟩ (.int .i64 0)).setCell ⟨w.heap.size,1,none⟩ (.slice a1 U.length k1):=⟨_,rfl⟩;have bw1:Below w.heap.size w w1:=KS (KN ((KM w.heap.size w).alloc (KY _) _)) (hb1.mono (by simp))
   have bwa:Below w.heap.size w wa:=by rw [hwa];exact (bw1.setCell (KY _) _).setCell (KY _) _
   have b0:wa.cell? ⟨w.heap.size,0,none⟩=some (.int .i64 0):=by rw [hwa];go_simp
   have b1:wa.cell? ⟨w.heap.size,1,none⟩=some (.slice a1 U.length k1):=by rw [hwa];go_simp
   have n1:¬ w.heap.size=p:=by omega
   have n2:¬ p=w.heap.size:=by omega
   have n3:¬ w.heap.size=bf:=by omega
   have n4:¬ bf=w.heap.size:=by omega
   exact Q9
def DI (now:Int) (LL:List (List Tm)) (slot:Int):List (List Tm):=bN now (LL.flatten.filter fun t=>!(t.id == slot))
theorem DH {now:Int} {LL:List (List Tm)} (h:WhMay now LL) {slot:Int} (z:∀ t∈LL.flatten,¬ t.id=slot):DI now LL slot=LL:=by
 unfold DI;rw [List.filter_eq_self.2 (fun t E=>by simpa using z t E)];exact (E8 h).symm
def jy (X:Wd) (i:Nat) (Y:List Sl):Wd:={ X with flows:=X.flows.take i++X.flows.drop (i+1),tab:=Y,lists:=DI X.now X.lists (X.flows.getD i Fl.zero).slot }
theorem iC {B p:Nat} {w:World} {X:Wd} {O:List Out} {S:List Nat} {V:Vs} {vo:Value} (h:G B p w X O S V vo) (i:Nat) (hi:i<X.flows.length) (bw:X.flows.length<=1000000) (o:Out) (f:Fl) (hf:X.flows.getD i Fl.zero=f) (Y:List Sl)
  (hD:wB X.tab f.slot f.gen Y 0) (hY:dR Y) (hm:bJ X.lives X.reqs) (hw:WhMay X.now X.lists) (bb:X.wnow=X.now) (hO:O.length<=900000) :
  Calls prog 77 #[.pointer (some ⟨p,0,none⟩),.int .i64 (i:Int),.agg (Out.cells o).toArray] w
   (GTo B p w S (cj (jy X i Y) f.backend).1 (O++[⟨o.kind,f.slot,f.gen,f.backend,o.request,o.code,o.why⟩]++(cj (jy X i Y) f.backend).2) (fun V'=>V'.h=V.h/\V'.m=V.m) (.tuple #[])):=by
 have b8:=h.gr
 have a4:=b8.c 18 (v:=V.f) rfl
 have xf:∀ n,w.frozen? ⟨p,n,none⟩=false:=fun n=>az h.bk n
 rcases fF h.of with ⟨_,h0⟩|⟨g,cf,ef,_⟩
 ·omega
 have a8:=h.of
 rw [ef] at a4 a8
 have bq:=(a8.lt g rfl).2
 have bp:g≠p:=(h.sf g (by rw [ef];rfl)).2
 obtain ⟨_,_,e0,_,_,_,pt⟩:=aO Fl.zero (aG a8 (by simp) (iU _)).1
 injection e0 with e01 _ e03
 subst e03
 obtain ⟨bf,bY,e1,bv,q⟩:=pt (by intro hh;rw [hh] at hi;simp at hi)
 rw [<- e01] at e1
 injection e1 with e1
 injection e1 with e1 e2
 subst e1 e2
 have W:∀ j,j<7->w.cell? ⟨g,i*7+j,none⟩=(Fl.cells f)[j]?:=fun j hj=>by have:=q i j hi hj;rw [hf] at this;simpa using this
 obtain ⟨f0,f1,f2,f3,f4,f5,f6⟩:=f
 obtain ⟨o0,o1,o2,o3,o4,o5,o6⟩:=o
 unfold Out.cells
 have d0:=W 0 (by omega)
 have d1:=W 1 (by omega)
 have d2:=W 2 (by omega)
 have d3:=W 3 (by omega)
 have d4:=W 4 (by omega)
 have d5:=W 5 (by omega)
 have d6:=W 6 (by omega)
 simp only [Fl.cells,Lb,Lc,Nat.add_zero] at d0 d1 d2 d3 d4 d5 d6
 have hp:=h.plt
 have i0:(0:Int)<=(i:Int):=by omega
 have i1:(i:Int)<(X.flows.length:Int):=by omega
 have iw:IntKind.i64.wrap ((i:Int)+1)=(i:Int)+1:=by rw [IntKind.wrap_i64];omega
 have Z:=KL h
 have ax:=KL ef
 have bd:=KL hD
 have HYm:=KL hY
 have HBm:=KL hm
 have a7:=KL hw
 have HWn:=KL bb
 have HFe:=KL hf
 have bi:=KL a8
 clear h b8 a8 pt q W hf hD hY hm hw bb ef e01
 go_in
 go_wp2_with fail
 have bt:B<=w.heap.size:=by have:=Z.out.pB;omega
 obtain ⟨w0,a0⟩:∃ w0,w0=(w.alloc (.cells #[.int .i64 o0,.int .i64 o1,.int .i64 o2,.int .i64 o3,.int .i64 o4,.int .i64 o5,.int .i64 o6] 75)).alloc (.cells #[.int .i64 f0,.int .i64 f1,.int .i64 f2,.int .i64 f3,.bool f4,.int .i64 f5,.int .i64 f6] 170):=⟨_,rfl⟩
 have b0:Below w.heap.size w w0:=by rw [a0];exact ((KM _ _).alloc (KY _) _).alloc (by simp) _
 have z0:w0.heap.size=w.heap.size+1+1:=by rw [a0];simp
 have HOb:Hid (w0.heap[w.heap.size]?=some (.cells #[.int .i64 o0,.int .i64 o1,.int .i64 o2,.int .i64 o3,.int .i64 o4,.int .i64 o5,.int .i64 o6] 75 (0,0))):=by rw [a0];exact (heap_alloc_old _ _ (by simp)).trans (aB (w:=w) _ rfl)
 have HFb:Hid (w0.heap[w.heap.size+1]?=some (.cells #[.int .i64 f0,.int .i64 f1,.int .i64 f2,.int .i64 f3,.bool f4,.int .i64 f5,.int .i64 f6] 170 (0,0))):=by rw [a0];exact aB (w:=w.alloc _) _ (by simp)
 have aA:=KL (I3 Z.out b0 w.heap.size (KY _) (by omega))
 have HN:Hid ((∀ b,V.f.ownBlock=some b->b<w.heap.size)/\(∀ b,V.h.ownBlock=some b->b<w.heap.size)/\∀ b,vo.ownBlock=some b->b<w.heap.size):=⟨fun b E=>(Z.out.of.lt b E).2,fun b E=>(Z.out.oh.lt b E).2,fun b E=>(Z.out.oo.lt b E).2⟩
 have bc:=KL b0
 have xf:∀ n,w0.frozen? ⟨p,n,none⟩=false:=fun n=>(b0.frozen (p:=⟨p,n,none⟩) hp).trans (xf n)
 have a4:=ah b0 a4 hp
 rw [<- a0]
 clear a0 d0 d1 d2 d3 d4 d5 d6
 refine (delFl B _ X.flows i _ (by omega) (bF bi.out b0) hi (by omega)).mono ?_
 rintro e I ⟨v1,rfl,am,an,bW,av,hb1⟩
 have ag:∀ b,b<w0.heap.size->b≠g->I.heap[b]?=w0.heap[b]?:=fun b h1 J=>av b h1 (fun e=>J (Option.some.inj e).symm)
 have HOb:Hid (I.heap[w.heap.size]?=some (.cells #[.int .i64 o0,.int .i64 o1,.int .i64 o2,.int .i64 o3,.int .i64 o4,.int .i64 o5,.int .i64 o6] 75 (0,0))):=(ag _ (by omega) (by omega)).trans HOb.out
 have HFb:Hid (I.heap[w.heap.size+1]?=some (.cells #[.int .i64 f0,.int .i64 f1,.int .i64 f2,.int .i64 f3,.bool f4,.int .i64 f5,.int .i64 f6] 170 (0,0))):=(ag _ (by omega) (by omega)).trans HFb.out
 have aw:=ag p (by omega) (fun e=>bp e.symm)
 have a4:=(Lg (w:=w0) (w':=I) (a:=⟨p,18,none⟩) aw).trans a4
 have xf:∀ n,I.frozen? ⟨p,n,none⟩=false:=fun n=>(World.frozen?_of_block (w:=w0) (w':=I) (a:=⟨p,n,none⟩) aw).trans (xf n)
 obtain ⟨a1,c1,rfl,_⟩:=aE an
 obtain ⟨F1,ar⟩:∃ F1,F1=X.flows.take i++X.flows.drop (i+1):=⟨_,rfl⟩
 rw [<- ar] at an am ⊢
 obtain ⟨S1,aL,aH,au,aS⟩:=vW aA.out F1 hb1 (fun b h1 J=>av b h1 (fun e=>J (by rw [ax.out];exact e))) an (fun b E=>Or.inl (by rw [ax.out];exact am ▸ E))
 have a6:=KL aL
 have ay:=KL ((Fr.of_below bc.out:Fr S w w0).trans aH (fun x hx=>(List.mem_cons.1 hx).elim (fun e=>Or.inr (by omega)) Or.inl))
 have HSo:Hid (w.heap.size∈S1):=aS _ Lw
 have HS1:Hid (∀ x∈S1,x∈S\/w.heap.size<=x):=fun x hx=>(au x hx).elim (fun h=>(List.mem_cons.1 h).elim (fun e=>Or.inr (by omega)) Or.inl) (fun h=>Or.inr (by omega))
 have HFl:=KL ar
 have HAf:Hid (∀ b,(Value.slice a1 F1.length c1).ownBlock=some b->b<w.heap.size):=fun b E=>by have e:(Value.slice (some ⟨g,0,none⟩) X.flows.length cf).ownBlock=some b:=am ▸ E;obtain rfl:g=b:=Option.some.inj e;exact bq
 have HFn:Hid (w.heap.size+1∉S1):=fun hx=>by
  rcases au _ hx with h|h
  ·rcases List.mem_cons.1 h with e|h
   ·omega
   ·have:=Z.out.sl _ h;omega
  ·omega
 clear am an av hb1 ag aw aL aH au aS ar aA b0 Z
 go_wp2_with fail
 obtain ⟨z,a9⟩:∃ z,z=I.setCell ⟨p,18,none⟩ (.slice a1 F1.length c1):=⟨_,rfl⟩
 rw [<- a9] at a6 ay ⊢
 have bX:z.heap.size=I.heap.size:=by rw [a9];simp
 have bC:w.heap.size+1+1<=I.heap.size:=by omega
 have HOb:Hid (z.heap[w.heap.size]?=some (.cells #[.int .i64 o0,.int .i64 o1,.int .i64 o2,.int .i64 o3,.int .i64 o4,.int .i64 o5,.int .i64 o6] 75 (0,0))):=by rw [a9];exact (KV _ _ _ _ (by show w.heap.size≠p;omega)).trans HOb.out
 have HFb:Hid (z.heap[w.heap.size+1]?=some (.cells #[.int .i64 f0,.int .i64 f1,.int .i64 f2,.int .i64 f3,.bool f4,.int .i64 f5,.int .i64 f6] 170 (0,0))):=by rw [a9];exact (KV _ _ _ _ (by show w.heap.size+1≠p;omega)).trans HFb.out
 clear a9 a4 xf
 have J:=a6.out.gr
 have ao:=J.c 17 (v:=V.t) rfl
 have xf:∀ n,z.frozen? ⟨p,n,none⟩=false:=fun n=>az a6.out.bk n
 obtain ⟨at_,ct,et,_⟩:=ap J.1.ta.1
 have HT:=KL J.1.ta.1
 rw [show ({ V with f:=.slice a1 F1.length c1 }:Vs).t=V.t from rfl] at et HT
 rw [et] at ao HT
 have d0:z.cell? ⟨w.heap.size+1,0,none⟩=some (.int .i64 f0):=ae HFb.out 0
 have d1:z.cell? ⟨w.heap.size+1,1,none⟩=some (.int .i64 f1):=ae HFb.out 1
 have ba:p<z.heap.size:=by omega
 have bx:w.heap.size+1<z.heap.size:=by omega
 clear J et
 (refine Zr (fun w':World=>w'.cell? ⟨w.heap.size+1,0,none⟩=some (.int .i64 f0)/\w'.cell? ⟨w.heap.size+1,1,none⟩=some (.int .i64 f1)) (fun hHeld=>?_);refine eY 0 ?_;refine Zt 4 ?_;refine dl 6 ?_;refine Z1 5 (fun K hK=>?_);go_simp;refine Zk hK fun hHeld=>?_;clear hK K;refine Z1 8 (fun K hK=>?_);go_simp;(go_at_call 125;refine (Cx X.tab Y f0 f1 0 _ _ (dH HT.out _) bd.out).mono ?_;rintro e w3 ⟨v3,rfl,R3,hb3⟩;obtain ⟨a3,c3,rfl,_⟩:=ap R3.1;have ad:Below z.heap.size z w3:=KS (aM (KM z.heap.size z)) (hb3.mono (by simp));have ao:=ah ad ao ba;have xf:∀ n,w3.frozen? ⟨p,n,none⟩=false:=(fun n=>(ad.frozen (p:=⟨p,n,none⟩) ba).trans (xf n));have bh:=KL (dv a6.out R3 (by simp));have aa:=KL ad;clear R3 ad;(try dsimp only));(try go_wp2_with fail);refine Zk hK fun hHeld=>?_;clear hK K;refine eY 9 ?_;refine dl 13 ?_;refine Z1 15 (fun K hK=>?_);go_simp;refine Zk hK fun hHeld=>?_;clear hK K;refine Zd ?_)
 go_wp2_with fail
 obtain ⟨w4,a2⟩:∃ w4,w4=w3.setCell ⟨p,17,none⟩ (.slice a3 Y.length c3):=⟨_,rfl⟩
 rw [<- a2]
 have G3:=dF a6.out aa.out
 have G4:=iY G3 17 (.slice a3 Y.length c3) { X with flows:=F1,tab:=Y } { V with f:=.slice a1 F1.length c1,t:=.slice a3 Y.length c3 } rfl rfl rfl rfl rfl rfl { G3.ro with ta:=bh.out }
 rw [<- a2] at G4
 have HG4:=KL G4
 have F4:Fr S1 z w4:=by rw [a2];exact (Fr.of_below aa.out).trans (di G3.sp 17 (.slice a3 Y.length c3)) (fun _ hx=>Or.inl hx)
 have HF4:=KL (ay.out.trans F4 HS1.out)
 have bE:z.heap.size<=w4.heap.size:=F4.size
 have HOb:Hid (w4.heap[w.heap.size]?=some (.cells #[.int .i64 o0,.int .i64 o1,.int .i64 o2,.int .i64 o3,.int .i64 o4,.int .i64 o5,.int .i64 o6] 75 (0,0))):=by rw [a2];exact (KV _ _ _ _ (by show w.heap.size≠p;omega)).trans ((aa.out.block _ (by omega)).trans HOb.out)
 have HFb:Hid (w4.heap[w.heap.size+1]?=some (.cells #[.int .i64 f0,.int .i64 f1,.int .i64 f2,.int .i64 f3,.bool f4,.int .i64 f5,.int .i64 f6] 170 (0,0))):=by rw [a2];exact (KV _ _ _ _ (by show w.heap.size+1≠p;omega)).trans ((aa.out.block _ (by omega)).trans HFb.out)
 have h4:=G4.gr
 have x24:=h4.c 24 (v:=.int .i64 X.now) (by unfold dz;simp only;rw [<- HWn.out];rfl)
 have x25:=h4.c 25 (v:=V.w) rfl
 have xf:∀ n,w4.frozen? ⟨p,n,none⟩=false:=fun n=>az G4.bk n
 have ak:lQ w4 V.w X.lists:=h4.1.wh.at_
 obtain ⟨al,cl,el⟩:=bL ak
 have aF:=a7.out.2.2.1
 have bT:=a7.out.tot
 have bu:X.lists.length<=1048576:=by omega
 rw [aF] at el
 rw [el] at x25 ak
 have ac:=KL ak
 have bs:=KL el
 have d0:w4.cell? ⟨w.heap.size+1,0,none⟩=some (.int .i64 f0):=ae HFb.out 0
 have hp4:p<w4.heap.size:=by omega
 have bz:w.heap.size+1<w4.heap.size:=by omega
 obtain ⟨L1,af⟩:∃ L1,L1=DI X.now X.lists f0:=⟨_,rfl⟩
 have HL1:=KL af
 have bn:∃ n5 L5 c5,CanAns X.now X.lists f0 n5 L5 c5/\((c5=0/\n5=X.now/\L5=L1)\/(c5=8/\L1=X.lists)):=by
  by_cases hex:∃ t∈X.lists.flatten,t.id=f0
  ·exact ⟨X.now,L1,0,Or.inr (Or.inr ⟨a7.out,hex,rfl,af,rfl⟩),Or.inl ⟨rfl,rfl,rfl⟩⟩
  ·have b9:∀ t∈X.lists.flatten,¬ t.id=f0:=fun t ht e=>hex ⟨t,ht,e⟩;exact ⟨0,[],8,Or.inr (Or.inl ⟨a7.out,b9,rfl,rfl,rfl⟩),Or.inr ⟨rfl,by rw [af];exact DH a7.out b9⟩⟩
 obtain ⟨n5,L5,c5,aT,hcc⟩:=bn
 have ab:=KL aT
 clear a2 G3 G4 F4 h4 el ak aF af aT ao d1
 (refine Zr (fun w':World=>w'.cell? ⟨p,24,none⟩=some (.int .i64 X.now)/\w'.cell? ⟨p,25,none⟩=some (.slice al 25 cl)/\w'.cell? ⟨w.heap.size+1,0,none⟩=some (.int .i64 f0)) (fun hHeld=>?_);refine eD 0 ?_;refine Z2 8 12 (fun K hK=>?_) (fun K hK=>?_);(focus (go_simp;(first|(go_at_call 50;refine (dg _ _ X.lists f0 _ (fD ac.out _) (by omega) (by omega) _ _ _ ab.out).mono ?_;rintro e w5 ⟨v5,rfl,hl5,hb5⟩;obtain ⟨a5,k5,rfl⟩:=bL hl5.at_;(try dsimp only))|(go_at_call 50;refine (dg _ _ X.lists f0 _ (eo ac.out (KN ((KM w4.heap.size w4).alloc (KY _) _))) (by omega) (by omega) _ _ _ ab.out).mono ?_;rintro e w5 ⟨v5,rfl,hl5,hb5⟩;obtain ⟨a5,k5,rfl⟩:=bL hl5.at_;have bj:w5.cell? ⟨w4.heap.size,0,none⟩=some (.int .i64 0):=ah hb5 (by go_simp) (by simp);have bk:w5.cell? ⟨w4.heap.size,1,none⟩=some (.slice none 0 0):=ah hb5 (by go_simp) (by simp);have bm:∀ n,w5.frozen? ⟨w4.heap.size,n,none⟩=false:=(fun n=>(hb5.frozen (p:=⟨w4.heap.size,n,none⟩) (by simp)).trans (by go_simp));(try dsimp only)));(try go_wp2_with fail);refine Zk hK fun hHeld=>?_;clear hK K;refine dl 9 ?_;refine Zt 11 ?_;refine Z1 12 (fun K hK=>?_);go_simp;refine Zk hK fun hHeld=>?_;clear hK K));rotate_left 1;(focus (go_simp;refine Zk hK fun hHeld=>?_;clear hK K;refine Z1 8 (fun K hK=>?_);go_simp;(first|(go_at_call 50;refine (dg _ _ X.lists f0 _ (fD ac.out _) (by omega) (by omega) _ _ _ ab.out).mono ?_;rintro e w5 ⟨v5,rfl,hl5,hb5⟩;obtain ⟨a5,k5,rfl⟩:=bL hl5.at_;(try dsimp only))|(go_at_call 50;refine (dg _ _ X.lists f0 _ (eo ac.out (KN ((KM w4.heap.size w4).alloc (KY _) _))) (by omega) (by omega) _ _ _ ab.out).mono ?_;rintro e w5 ⟨v5,rfl,hl5,hb5⟩;obtain ⟨a5,k5,rfl⟩:=bL hl5.at_;have bj:w5.cell? ⟨w4.heap.size,0,none⟩=some (.int .i64 0):=ah hb5 (by go_simp) (by simp);have bk:w5.cell? ⟨w4.heap.size,1,none⟩=some (.slice none 0 0):=ah hb5 (by go_simp) (by simp);have bm:∀ n,w5.frozen? ⟨w4.heap.size,n,none⟩=false:=(fun n=>(hb5.frozen (p:=⟨w4.heap.size,n,none⟩) (by simp)).trans (by go_simp));(try dsimp only)));(try go_wp2_with fail);refine Zk hK fun hHeld=>?_;clear hK K;refine dl 9 ?_;refine Zt 11 ?_));rotate_left 1;(all_goals (refine Z1 13 (fun K hK=>?_);go_simp;refine Zk hK fun hHeld=>?_;clear hK K;refine Zt 14 ?_));(all_goals refine Zd ?_))
 ·obtain ⟨wa,hwa⟩:∃ wa,wa=w5.alloc (.cells #[.int .i64 n5,.slice a5 L5.length k5] 54):=⟨_,rfl⟩;have bw5:Below w4.heap.size w4 w5:=KS (aM (KM w4.heap.size w4)) (hb5.mono (by simp));have br:=bw5.size
  have bwa:Below w4.heap.size w4 wa:=by rw [hwa];exact bw5.alloc br _
  have y0:wa.cell? ⟨w5.heap.size,0,none⟩=some (.int .i64 n5):=by rw [hwa];go_simp
  have y1:wa.cell? ⟨w5.heap.size,1,none⟩=some (.slice a5 L5.length k5):=by rw [hwa];go_simp
  have hk:LsK (NI B S1) wa (.slice a5 L5.length k5) L5:=gu (je (jS hl5) (fun b _ U=>⟨fun hS=>by have:=HG4.out.sl b hS;simp at U;omega,by have:=HG4.out.pB;have:=HG4.out.plt;simp at U;omega⟩)) (by rw [hwa];simp) (fun b E _=>by rw [hwa];exact ((KM _ _).alloc (KY _) _:Below w5.heap.size w5 _).block b E);have m1:¬ w5.heap.size=p:=by omega
  have m2:¬ p=w5.heap.size:=by omega
  exact Q62
 ·obtain ⟨wa,hwa⟩:∃ wa,wa=(w5.setCell ⟨w4.heap.size,0,none⟩ (.int .i64 n5)).setCell ⟨w4.heap.size,1,none⟩ (.slice a5 L5.length k5):=⟨_,rfl⟩;have bw5:Below w4.heap.size w4 w5:=KS (KN ((KM w4.heap.size w4).alloc (KY _) _)) (hb5.mono (by simp))
  have bwa:Below w4.heap.size w4 wa:=by rw [hwa];exact (bw5.setCell (KY _) _).setCell (KY _) _
  have y0:wa.cell? ⟨w4.heap.size,0,none⟩=some (.int .i64 n5):=by rw [hwa];go_simp
  have y1:wa.cell? ⟨w4.heap.size,1,none⟩=some (.slice a5 L5.length k5):=by rw [hwa];go_simp
  have hk:LsK (NI B S1) wa (.slice a5 L5.length k5) L5:=je (gu (jS hl5) (by rw [hwa];simp) (fun b _ U=>by rw [hwa,KV _ _ _ _ (by simp at U;show b≠w4.heap.size;omega),KV _ _ _ _ (by simp at U;show b≠w4.heap.size;omega)])) (fun b _ U=>⟨fun hS=>by have:=HG4.out.sl b hS;simp at U;omega,by have:=HG4.out.pB;have:=HG4.out.plt;simp at U;omega⟩);have m1:¬ w4.heap.size=p:=by omega
  have m2:¬ p=w4.heap.size:=by omega
  exact Q62
end
end Go.Proofs.YtennppmadmgfoaaGreatDoor
