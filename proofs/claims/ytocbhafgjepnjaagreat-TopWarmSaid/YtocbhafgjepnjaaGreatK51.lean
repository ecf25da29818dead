/- Texts of the row's proof. Conditions: none. -/
import Derived.Test.YtocbhafgjepnjaaGreatK45
import Derived.Test.YtocbhafgjepnjaaGreatK50
namespace Go.Proofs.YtocbhafgjepnjaaGreat
set_option maxRecDepth 100000
set_option maxHeartbeats 8000000
section
open Go.RowKit
theorem walk_TopWarm (v0 v1:Value) (W:World) (o0:Is_Setup W v0) (o1:Is_sl_Deed W v1) :Calls Tryz.prog 11 #[v0,v1] W fun e w'=>e=.returned (.bool true)∧Below W.heap.size W w':=by
 obtain ⟨s,rfl,hs⟩:=o0;obtain ⟨L,hr,hd,_⟩:=o1;obtain ⟨av,cv,rfl,_⟩:=aj hr;have hcf:=pa s;have hat:=jD hcf L (most:=60) (by omega);have hpl:∀ w',Below W.heap.size W w'→Calls Tryz.prog 13 #[.agg (Su.cells s).toArray,.slice av L.length cv,.int .i64 ((60:Nat):Int)] w' (pf w' (yC s) L 60):=fun w' hb=>kc s hs L hd _ (aq hr hb) 60 (by omega);obtain ⟨c,hc⟩:∃ c,c=yC s:=⟨_,rfl⟩;rw [← hc] at hpl hcf hat;obtain ⟨SA,hSA⟩:∃ SA,SA=(Su.cells s).toArray:=⟨_,rfl⟩;rw [← hSA] at hpl ⊢;have HSI:=Ib (show (Tryz.prog.info? 24).map (·.size)=some SA.size by rw [hSA];show _=some 16;kernel_rfl);have HPl:=Ib hpl;have HF:=Ib hcf;have HAt:=Ib hat;have HK:=Ib (show (W.alloc (.cells SA 24 (0,0))).heap[W.heap.size]?=some (.cells SA 24 (0,0)) from au _ rfl);have HB0:=Ib (show Below W.heap.size W (W.alloc (.cells SA 24 (0,0))) from (Ic _ _).alloc (Ij _) _);clear hs hd hr hcf hc hSA hat hpl;go_enter Tryz.func11,Tryz.ntmps11;go_wp2_with (first|(refine t7 rfl 24 (.tmp 2) rfl W.heap.size rfl 24 SA (0,0) _ HK.out Tryz.underlying24 rfl HSI.out ?_)|(go_at_call 13;refine (HPl.out _ HB0.out).mono ?_;rintro e w1 ⟨p,VL,MS,vs,vg,rfl,hpg,hb1⟩;have hw1:=HB0.out.trans (hb1.mono HB0.out.size);have HW1:=Ib hw1;have HPg:=Ib hpg;clear hb1 hpg hw1));obtain ⟨P,hP⟩:∃ P,P=fW (di c) L 60:=⟨_,rfl⟩;rw [← hP] at HPg HAt;have HPE:=Ib hP;obtain ⟨as_,cs_,hx16,hst⟩:=HPg.out.rd;have HX16:=Ib hx16;have HSt:=Ib hst;have hlp:=lt_of_block HPg.out.bk;have HLp:=Ib hlp;clear hP hx16 hst hlp;go_loopw [7] (fun i wr=>∃ k:Nat,k≤P.steps.length∧i=.int .i64 k∧Below w1.heap.size w1 wr) (fun i _=>P.steps.length - (intOf i).toNat)
 case atStart=>exact ⟨0,Ik _,rfl,Ic _ _⟩
 case round=>
  obtain ⟨k,hk,rfl,hbr⟩:=hrel;have HBr:=Ib hbr;have x16:=ae hbr HX16.out HLp.out
  have hlen:P.steps.length≤2000:=by have h1:=HAt.out.len;simp at h1;omega
  clear hbr;rcases (show k<P.steps.length∨k=P.steps.length by omega) with hlt|rfl
  ·have hlt':(k:Int)<(P.steps.length:Int):=by omega
   have k0:(0:Int)≤(k:Int):=by omega
   obtain ⟨bs,os,rfl,hbs,hrg⟩:=HSt.out (by omega);have hrg':=iB HBr.out hbs (hrg k hlt);have hpgr:=HPg.out.below HBr.out;have hws:=hpgr.ws k hlt;have hok:=HAt.out.ok.st (P.steps.getD k Stp.zero) (by rw [aK hlt];exact Iw _);obtain ⟨s,hs⟩:∃ s,s=P.steps.getD k Stp.zero:=⟨_,rfl⟩;obtain ⟨m,hm⟩:∃ m,m=MS.getD k Ms.zero:=⟨_,rfl⟩;rw [← hs] at hrg' hws hok;rw [← hm] at hrg' hws;have hsi:=tV s m;have h1c:=tM hws;have hsl:=kF s m;obtain ⟨SL,hSL⟩:∃ SL,SL=lc s m:=⟨_,rfl⟩;rw [← hSL] at hrg' hsi h1c hsl;have HRg:=Ib hrg';have HSi:=Ib hsi;have HSz:=Ib (show (Tryz.prog.info? 62).map (·.size)=some SL.toArray.size by rw [hsi];simp);have H1c:=Ib h1c;have HSl:=Ib hsl;have HSL:=Ib hSL;have HWs:=Ib hws;have HOk:=Ib hok;have HS:=Ib hs;have HM:=Ib hm;clear hrg hrg' hpgr hws hok hs hm hsi h1c hsl hSL
   have hwm:∀ y:Lf,y∈s.af.lives→y.state=2→l9 s.af y.backend≤y.weight∧(l9 s.be y.backend≤l9 s.af y.backend∨iT s.af.health y.backend=true):=fun y hy h2=>by
    have e:=HOk.out.2.2.2.2.1;rw [e] at hy ⊢;exact Fi HOk.out.1 HOk.out.2.2.2.1 hy h2
   have HWm:=Ib hwm;have hgB:=HOk.out.1.gw;have hgA:=HOk.out.2.1.gw;have HgB:=Ib hgB;have HgA:=Ib hgA;have hl12:=hgA.bk.1;clear hwm hgA hgB;go_wp2_with (first|(refine wpList_load_mid rfl 62 (.tmp 33) rfl bs (os+k*61) rfl SL _ HRg.out Tryz.underlying62 rfl HSi.out ?_)|(refine IP rfl 62 (.tmp 8) (.tmp 34) rfl wr.heap.size SL.toArray rfl rfl 62 _ (au _ rfl) HSz.out (by simp [HSl.out]) H1c.out ?_;refine aW _ (fun w2 hw2=>?_);have hb2:Below wr.heap.size wr w2:=(by rw [hw2];exact aQ ((Ic _ _).alloc (Ij _) _) (Ij _));have hbx:w2.heap[wr.heap.size]?=some (.cells SL.toArray 62 (0,0)):=(by rw [hw2];exact aX (au _ rfl));have HB2:=Ib hb2;have HBx:=Ib hbx;clear hw2 hb2 hbx));have gB:=zg HWs.out HB2.out (by rw [HBx.out,HSL.out]);have gA:=zh HWs.out HB2.out (by rw [HBx.out,HSL.out]);have hzr:=HB2.out.size;obtain ⟨bx,hbx⟩:∃ bx,bx=wr.heap.size:=⟨_,rfl⟩;rw [← hbx] at gB gA HBx ⊢;clear hbx;obtain ⟨wo,rfl⟩:∃ wo:World,wo=wr:=⟨_,rfl⟩;have HGA:=Ib gA;have HGB:=Ib gB;obtain ⟨LB,hLB⟩:∃ LB,LB=cQ s.be m.b:=⟨_,rfl⟩;obtain ⟨LA,hLA⟩:∃ LA,LA=cQ s.af m.a:=⟨_,rfl⟩;have HLB:=Ib hLB;have HLA:=Ib hLA;have HIB:=Ib (show (Tryz.prog.info? 54).map (·.size)=some LB.length by rw [hLB,fH];kernel_rfl);have HIA:=Ib (show (Tryz.prog.info? 54).map (·.size)=some LA.length by rw [hLA,fH];kernel_rfl);clear gA gB hLB hLA;obtain ⟨al,cl,x53,hq⟩:=HGA.out.lv;obtain ⟨bh,oh,ch,x56,hbh,hqh⟩:=HGA.out.hh HgA.out.hl;have HQ:=Ib hq;have HQh:=Ib hqh;have HX53:=Ib (show w2.cell? ⟨bx,53,none⟩=some (.slice al s.af.lives.length cl) from x53);have HX56:=Ib (show w2.cell? ⟨bx,56,none⟩=some (.slice (some ⟨bh,oh,none⟩) 12 ch) from x56);have HBh:=Ib hbh;have HLt:=Ib HGA.out.lt;clear hq hqh x53 x56 hbh;go_loopw [9] (fun i wr=>∃ j:Nat,j≤s.af.lives.length∧i=.int .i64 j∧Below w2.heap.size w2 wr) (fun i _=>s.af.lives.length - (intOf i).toNat)
   case atStart=>exact ⟨0,Ik _,rfl,Ic _ _⟩
   case round=>
    obtain ⟨j,hj,rfl,hbj⟩:=hrel;have x53:=ae hbj HX53.out HLt.out;have HBj:=Ib hbj;have hzj:=hbj.size;rcases (show j<s.af.lives.length∨j=s.af.lives.length by omega) with hlj|rfl
    ·have hlj':(j:Int)<(s.af.lives.length:Int):=by omega
     have j0:(0:Int)≤(j:Int):=by omega
     obtain ⟨bl,ol,rfl,hbl,q⟩:=HQ.out (by omega);have a0:=ae hbj (q j 0 hlj (by omega)) hbl;have a1:=ae hbj (q j 1 hlj (by omega)) hbl;have a2:=ae hbj (q j 2 hlj (by omega)) hbl;have a3:=ae hbj (q j 3 hlj (by omega)) hbl;have a4:=ae hbj (q j 4 hlj (by omega)) hbl;have a5:=ae hbj (q j 5 hlj (by omega)) hbl
     have hym:s.af.lives.getD j Lf.zero∈s.af.lives:=by rw [aK hlj];exact Iw _
     have hlm:=dz HgA.out.bk hym;have hwj:=HWm.out _ hym;obtain ⟨x,hx⟩:∃ x,x=s.af.lives.getD j Lf.zero:=⟨_,rfl⟩;rw [← hx] at a0 a1 a2 a3 a4 a5 hlm hwj;obtain ⟨x0,x1,x2,x3,x4,x5⟩:=x;simp only [Nat.add_zero] at a0 a1 a2 a3 a4 a5;simp only at hwj;have hb0:0≤x0:=hlm.1;have hb1:x0≤11:=hlm.2.1;obtain ⟨n,rfl⟩:=Iy hb0;have hn12:n<12:=by omega
     clear hx q hlm hb0 hb1 hym;by_cases hx1:x1=2
     ·subst hx1;have hwj:=hwj rfl;obtain ⟨A,hA⟩:∃ A,A=l9 s.be (n:Int):=⟨_,rfl⟩;obtain ⟨Bw,hBw⟩:∃ B,B=l9 s.af (n:Int):=⟨_,rfl⟩;rw [← hA,← hBw] at hwj;have hA8:=sX HgB.out (n:Int);have hB8:=sX HgA.out (n:Int);rw [← hA] at hA8;rw [← hBw] at hB8;obtain ⟨t,ht⟩:∃ t,t=(s.af.health.getD n Ht.zero).out:=⟨_,rfl⟩
      have hot:iT s.af.health (n:Int)=t:=by unfold iT;rw [Iu,← ht]
      rw [hot] at hwj;have HWj:=Ib hwj;have HAe:=Ib hA;have HBe:=Ib hBw;have HTe:=Ib ht;clear hA hBw ht hot hwj;go_upto_region 11 with fail;refine aW _ (fun w3 hw3=>?_)
      have hb3:Below wr.heap.size wr w3:=by rw [hw3];exact Zb
      have hk3:w3.heap[wr.heap.size]?=some (.cells #[.int .i64 (n:Int),.int .i64 2,.int .i64 x2,.int .i64 x3,.int .i64 x4,.int .i64 x5] 85 (0,0)):=by rw [hw3];exact au _ rfl
      have HB3:=Ib hb3;have HK3:=Ib hk3;clear hw3 hk3 hb3;have b23:=HBj.out.trans (HB3.out.mono hzj);have RB3:=Ib (show w3.rangeAt bx 8 LB by rw [HLB.out];exact (HGB.out.below b23).rg)
      have hCB:Calls Tryz.prog 19 #[.agg LB.toArray,.int .i64 (n:Int)] w3 (fun e w'=>e=.returned (.int .i64 A)∧Below w3.heap.size w3 w'):=by rw [HLB.out,HAe.out];exact j5 (HGB.out.below b23).wa HgB.out n hn12
      have hCA:∀ w',Below w2.heap.size w2 w'→Calls Tryz.prog 19 #[.agg LA.toArray,.int .i64 (n:Int)] w' (fun e w''=>e=.returned (.int .i64 Bw)∧Below w'.heap.size w' w''):=fun w' hb'=>by rw [HLA.out,HBe.out];exact j5 (HGA.out.below hb').wa HgA.out n hn12
      have HCB:=Ib hCB;have HCA:=Ib hCA;have B23:=Ib b23;have y0:w3.cell? ⟨wr.heap.size,0,none⟩=some (.int .i64 (n:Int)):=aa HK3.out 0;clear hCB hCA b23;go_upto_region 12 with (first|(refine wpList_load_mid rfl 54 (.tmp 54) rfl bx 8 rfl LB _ RB3.out Tryz.underlying54 rfl HIB.out ?_)|(go_at_call 19;refine HCB.out.mono ?_;rintro e w4 ⟨rfl,hb4⟩;have B24:=Ib (B23.out.trans (hb4.mono B23.out.size));have RA4:=Ib (show w4.rangeAt bx 34 LA by rw [HLA.out];exact (HGA.out.below B24.out).rg);have HK4:=Ib (ai hb4 HK3.out (lt_of_block HK3.out));have y0:w4.cell? ⟨wr.heap.size,0,none⟩=some (.int .i64 (n:Int)):=aa HK4.out 0;clear hb4));clear y0;have y0:w4.cell? ⟨wr.heap.size,0,none⟩=some (.int .i64 (n:Int)):=aa HK4.out 0
      have hao:∀ w',Below w2.heap.size w2 w'→w'.cell? ⟨bh,oh+n*4+1,none⟩=some (.bool t):=fun w' hb'=>by
       have:=ae hb' (HQh.out n 1 hn12 (by omega)) HBh.out;rw [this,HTe.out]
      have HAo:=Ib hao;have hBx:Bw≤x2:=HWj.out.1;clear hao;go_wp2_with (first|(refine wpList_load_mid rfl 54 (.tmp 59) rfl bx 34 rfl LA _ RA4.out Tryz.underlying54 rfl HIA.out ?_));refine (HCA.out _ B24.out).mono ?_;rintro e w5 ⟨rfl,hb5⟩;have B25:=Ib (B24.out.trans (hb5.mono B24.out.size));have y2:w5.cell? ⟨wr.heap.size,2,none⟩=some (.int .i64 x2):=(aa (ai hb5 HK4.out (lt_of_block HK4.out)) 2);have y0:w5.cell? ⟨wr.heap.size,0,none⟩=some (.int .i64 (n:Int)):=(aa (ai hb5 HK4.out (lt_of_block HK4.out)) 0);clear hb5;by_cases hlt2:Bw<A
      ·obtain rfl:t=true:=by rcases HWj.out.2 with g|g;omega;exact g
       have x56:=ae B25.out HX56.out HLt.out;have ao:=HAo.out _ B25.out;exact Q163
      ·exact Q163
     ·go_wp2;go_roundw
      case rel=>exact ⟨j+1,by omega,by go_num,HBj.out.trans ((show Below wr.heap.size wr _ from Zb).mono hzj)⟩
      case measure=>simp [intOf];omega
    ·have hgj:¬ (s.af.lives.length:Int)<(s.af.lives.length:Int):=by omega
     go_wp2;go_roundw
     case rel=>exact ⟨k+1,by omega,by go_num,HBr.out.trans ((HB2.out.trans (HBj.out.mono hzr)).mono HBr.out.size)⟩
     case measure=>simp [intOf];omega
  ·exact Q75
end
end Go.Proofs.YtocbhafgjepnjaaGreat
