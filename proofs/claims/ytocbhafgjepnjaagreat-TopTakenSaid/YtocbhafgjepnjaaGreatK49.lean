/- Texts of the row's proof. Conditions: none. -/
import Derived.Test.YtocbhafgjepnjaaGreatK45
import Derived.Test.YtocbhafgjepnjaaGreatK48
namespace Go.Proofs.YtocbhafgjepnjaaGreat
set_option maxRecDepth 100000
set_option maxHeartbeats 8000000
section
open Go.RowKit
theorem walk_TopTaken (v0 v1:Value) (W:World) (o0:Is_Setup W v0) (o1:Is_sl_Deed W v1) :Calls Tryz.prog 7 #[v0,v1] W fun e w'=>e=.returned (.bool true)∧Below W.heap.size W w':=by
 obtain ⟨s,rfl,hs⟩:=o0;obtain ⟨L,hr,hd,_⟩:=o1;obtain ⟨av,cv,rfl,_⟩:=aj hr;have hcf:=pa s;have hat:=jD hcf L (most:=60) (by omega);have hpl:∀ w',Below W.heap.size W w'→Calls Tryz.prog 13 #[.agg (Su.cells s).toArray,.slice av L.length cv,.int .i64 ((60:Nat):Int)] w' (pf w' (yC s) L 60):=fun w' hb=>kc s hs L hd _ (aq hr hb) 60 (by omega);obtain ⟨c,hc⟩:∃ c,c=yC s:=⟨_,rfl⟩;rw [← hc] at hpl hcf hat;obtain ⟨SA,hSA⟩:∃ SA,SA=(Su.cells s).toArray:=⟨_,rfl⟩;rw [← hSA] at hpl ⊢;have HSI:=Ib (show (Tryz.prog.info? 24).map (·.size)=some SA.size by rw [hSA];show _=some 16;kernel_rfl);have HTO:=Ib (Cn hcf L);have HPl:=Ib hpl;have HF:=Ib hcf;have HAt:=Ib hat;have HK:=Ib (show (W.alloc (.cells SA 24 (0,0))).heap[W.heap.size]?=some (.cells SA 24 (0,0)) from au _ rfl);have HB0:=Ib (show Below W.heap.size W (W.alloc (.cells SA 24 (0,0))) from (Ic _ _).alloc (Ij _) _);clear hs hd hr hcf hc hSA hat hpl;go_enter Tryz.func7,Tryz.ntmps7;go_wp2_with (first|(refine t7 rfl 24 (.tmp 2) rfl W.heap.size rfl 24 SA (0,0) _ HK.out Tryz.underlying24 rfl HSI.out ?_)|(go_at_call 13;refine (HPl.out _ HB0.out).mono ?_;rintro e w1 ⟨p,VL,MS,vs,vg,rfl,hpg,hb1⟩;have hw1:=HB0.out.trans (hb1.mono HB0.out.size);have HW1:=Ib hw1;have HPg:=Ib hpg;clear hb1 hpg hw1));obtain ⟨P,hP⟩:∃ P,P=fW (di c) L 60:=⟨_,rfl⟩;rw [← hP] at HPg HAt;have HPE:=Ib hP;obtain ⟨as_,cs_,hx16,hst⟩:=HPg.out.rd;have HX16:=Ib hx16;have HSt:=Ib hst;have hlp:=lt_of_block HPg.out.bk;have HLp:=Ib hlp;clear hP hx16 hst hlp;go_loopw [7] (fun i wr=>∃ k:Nat,k≤P.steps.length∧i=.int .i64 k∧Below w1.heap.size w1 wr) (fun i _=>P.steps.length - (intOf i).toNat)
 case atStart=>exact ⟨0,Ik _,rfl,Ic _ _⟩
 case round=>
  obtain ⟨k,hk,rfl,hbr⟩:=hrel;have HBr:=Ib hbr;have x16:=ae hbr HX16.out HLp.out
  have hlen:P.steps.length≤2000:=by have h1:=HAt.out.len;simp at h1;omega
  clear hbr;rcases (show k<P.steps.length∨k=P.steps.length by omega) with hlt|rfl
  ·have hlt':(k:Int)<(P.steps.length:Int):=by omega
   have k0:(0:Int)≤(k:Int):=by omega
   obtain ⟨bs,os,rfl,hbs,hrg⟩:=HSt.out (by omega);have hrg':=iB HBr.out hbs (hrg k hlt);have hpgr:=HPg.out.below HBr.out;have hws:=hpgr.ws k hlt;have hok:=HAt.out.ok.st (P.steps.getD k Stp.zero) (by rw [aK hlt];exact Iw _);obtain ⟨s,hs⟩:∃ s,s=P.steps.getD k Stp.zero:=⟨_,rfl⟩;obtain ⟨m,hm⟩:∃ m,m=MS.getD k Ms.zero:=⟨_,rfl⟩;rw [← hs] at hrg' hws hok;rw [← hm] at hrg' hws;have hsi:=tV s m;have h1c:=tM hws;have hsl:=kF s m;obtain ⟨SL,hSL⟩:∃ SL,SL=lc s m:=⟨_,rfl⟩;rw [← hSL] at hrg' hsi h1c hsl;have HRg:=Ib hrg';have HSi:=Ib hsi;have HSz:=Ib (show (Tryz.prog.info? 62).map (·.size)=some SL.toArray.size by rw [hsi];simp);have H1c:=Ib h1c;have HSl:=Ib hsl;have HSL:=Ib hSL;have HWs:=Ib hws;have HOk:=Ib hok;have HS:=Ib hs;have HM:=Ib hm;clear hrg hrg' hpgr hws hok hs hm hsi h1c hsl hSL
   have hmem:s∈P.steps:=by rw [HS.out,aK hlt];exact Iw _
   have htk:TakS s:=HTO.out.s s (by rw [← HPE.out];exact hmem);have hcf2:s.be.cf.flows=c.flows:=by rw [HOk.out.2.2.2.2.2.2.1]
   obtain ⟨kd,hkd⟩:∃ kd,kd=s.ev.kind:=⟨_,rfl⟩;have HTk:=Ib htk;have HKd:=Ib hkd;have HCf:=Ib hcf2;have HgB:=Ib HOk.out.1.gw;have xp0:=HPg.out.below HBr.out;have HPr:=Ib xp0;clear htk hkd hmem hcf2 xp0;go_upto_region 6 with (first|(refine wpList_load_mid rfl 62 (.tmp 33) rfl bs (os+k*61) rfl SL _ HRg.out Tryz.underlying62 rfl HSi.out ?_)|(refine IP rfl 62 (.tmp 8) (.tmp 34) rfl wr.heap.size SL.toArray rfl rfl 62 _ (au _ rfl) HSz.out (by simp [HSl.out]) H1c.out ?_;refine aW _ (fun w2 hw2=>?_);have hb2:Below wr.heap.size wr w2:=(by rw [hw2];exact aQ ((Ic _ _).alloc (Ij _) _) (Ij _));have hbx:w2.heap[wr.heap.size]?=some (.cells SL.toArray 62 (0,0)):=(by rw [hw2];exact aX (au _ rfl));have HB2:=Ib hb2;have HBx:=Ib hbx;clear hw2 hb2 hbx));have gB:=zg HWs.out HB2.out (by rw [HBx.out,HSL.out]);have gA:=zh HWs.out HB2.out (by rw [HBx.out,HSL.out]);have hzr:=HB2.out.size;obtain ⟨bx,hbx⟩:∃ bx,bx=wr.heap.size:=⟨_,rfl⟩;rw [← hbx] at gB gA HBx ⊢;clear hbx;obtain ⟨wo,rfl⟩:∃ wo:World,wo=wr:=⟨_,rfl⟩;have HGA:=Ib gA;have HGB:=Ib gB;obtain ⟨LB,hLB⟩:∃ LB,LB=cQ s.be m.b:=⟨_,rfl⟩;obtain ⟨LA,hLA⟩:∃ LA,LA=cQ s.af m.a:=⟨_,rfl⟩;have HLB:=Ib hLB;have HLA:=Ib hLA;have HIB:=Ib (show (Tryz.prog.info? 54).map (·.size)=some LB.length by rw [hLB,fH];kernel_rfl);have HIA:=Ib (show (Tryz.prog.info? 54).map (·.size)=some LA.length by rw [hLA,fH];kernel_rfl);clear gA gB hLB hLA
   have y0:w2.cell? ⟨bx,0,none⟩=some (.int .i64 kd):=by rw [aa HBx.out 0,HSL.out,HKd.out];rfl
   by_cases hk1:kd=1
   ·obtain ⟨o,ho,hcs⟩:=HTk.out (by rw [← HKd.out];exact hk1);obtain ⟨al,cl,x26⟩:=HGB.out.fn;obtain ⟨ao,co,x60,hq⟩:=Cp HWs.out HB2.out (by rw [HBx.out,HSL.out]);rw [ho] at x60 hq;obtain ⟨bo,oo,rfl,hbo,q⟩:=hq (by simp);have a0:=q 0 0 (by simp) (by omega);have a1:=q 0 1 (by simp) (by omega);have a2:=q 0 2 (by simp) (by omega);have a3:=q 0 3 (by simp) (by omega);have a4:=q 0 4 (by simp) (by omega);have a5:=q 0 5 (by simp) (by omega);have a6:=q 0 6 (by simp) (by omega);obtain ⟨o0,o1,o2,o3,o4,o5,o6⟩:=o;simp only [List.getD_cons_zero,Out.cells,Il,Im,Nat.zero_mul,Nat.add_zero] at a0 a1 a2 a3 a4 a5 a6;simp only at hcs;have x26':w2.cell? ⟨bx,26,none⟩=some (.slice al s.be.flows.length cl):=x26;obtain ⟨F,hF⟩:∃ F,F=s.be.flows.length:=⟨_,rfl⟩;obtain ⟨cfl,hcfl⟩:∃ f,f=c.flows:=⟨_,rfl⟩;obtain ⟨Tt,hTt⟩:∃ T,T=Ak s.be:=⟨_,rfl⟩;rw [HCf.out,← hF,← hcfl,← hTt] at hcs;rw [← hF] at x26'
    have xp0:w2.cell? ⟨p,0,none⟩=some (.int .i64 cfl):=by rw [hcfl];have h1:=(HPr.out.below HB2.out).bk;rw [aa h1 0];rfl
    have HTt:=Ib hTt;have HCs:=Ib hcs;have Hx60:=Ib x60;have Ha0:=Ib (And.intro a0 (And.intro a1 (And.intro a2 (And.intro a3 (And.intro a4 (And.intro a5 a6))))));have HBo:=Ib hbo;clear hTt hF hcfl x26 hcs hq q ho x60 a0 a1 a2 a3 a4 a5 a6 hbo;go_wp2_with fail;go_quiet (fail);go_upto_region 8 with fail;refine aW _ (fun wq hwq=>?_)
    have bq:Below w2.heap.size w2 wq:=by rw [hwq];exact Zb
    have BQ:=Ib bq;have RBq:=Ib (show wq.rangeAt bx 8 LB by rw [HLB.out];exact (HGB.out.below bq).rg)
    have hC:Calls Tryz.prog 18 #[.agg LB.toArray] wq (fun e w'=>e=.returned (.int .i64 Tt)∧Below wq.heap.size wq w'):=by rw [HLB.out,HTt.out];exact xM (HGB.out.below bq).wa HgB.out
    have HC:=Ib hC;clear hwq bq hC xp0 x26' y0;go_wp2_with (first|(refine wpList_load_mid rfl 54 (.tmp 49) rfl bx 8 rfl LB _ RBq.out Tryz.underlying54 rfl HIB.out ?_));refine HC.out.mono ?_;rintro e w5 ⟨rfl,hb5⟩;have B25:=Ib (BQ.out.trans (hb5.mono BQ.out.size));have lbx:=HGB.out.lt;have x60:=ae B25.out Hx60.out lbx;have a0:=ae B25.out Ha0.out.1 HBo.out;have a1:=ae B25.out Ha0.out.2.1 HBo.out;have a2:=ae B25.out Ha0.out.2.2.1 HBo.out;have a3:=ae B25.out Ha0.out.2.2.2.1 HBo.out;have a4:=ae B25.out Ha0.out.2.2.2.2.1 HBo.out;have a5:=ae B25.out Ha0.out.2.2.2.2.2.1 HBo.out;have a6:=ae B25.out Ha0.out.2.2.2.2.2.2 HBo.out;have b25:Below w5.heap.size w5 w5:=Ic _ _;have hz5:=B25.out.size;clear hb5 lbx;rcases HCs.out with ⟨h1,h2,rfl⟩|⟨h1,rfl,rfl⟩|⟨h1,h2,rfl,rfl⟩
    ·have d1:decide ((F:Int)<cfl)=true:=by simpa using h1
     have d2:decide (0<Tt)=true:=by simpa using h2
     exact Q46
    ·have d1:decide ((F:Int)<cfl)=false:=by simpa using h1
     exact Q46
    ·have d1:decide ((F:Int)<cfl)=true:=by simpa using h1
     have d2:decide (0<Tt)=false:=by simpa using h2
     exact Q46
   ·exact Q74
  ·exact Q75
end
end Go.Proofs.YtocbhafgjepnjaaGreat
