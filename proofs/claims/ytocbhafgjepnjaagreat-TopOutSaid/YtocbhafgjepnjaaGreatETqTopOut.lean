/- Texts of the row's proof. Conditions: none. -/
import Derived.Test.YtocbhafgjepnjaaGreatK43
import Derived.Test.YtocbhafgjepnjaaGreatETpH
import Derived.Test.YtocbhafgjepnjaaGreatETpY
import Derived.Test.YtocbhafgjepnjaaGreatETpA4
import Derived.BigQuiet
namespace Go.Proofs.YtocbhafgjepnjaaGreat
set_option maxRecDepth 100000
set_option maxHeartbeats 8000000
open Go.RowKit
theorem walk_TopOut (v0 v1:Value) (W:World) (o0:Is_Setup W v0) (o1:Is_sl_Deed W v1) :Calls Tryz.prog 5 #[v0,v1] W fun e w'=>e=.returned (.bool true)∧Below W.heap.size W w':=by
 obtain ⟨s,rfl,hs⟩:=o0
 obtain ⟨L,hr,hd,_⟩:=o1
 obtain ⟨av,cv,rfl,_⟩:=aj hr
 have hcf:=pa s
 have hat:=jD hcf L (most:=60) (by omega)
 have hpl:∀ w',Below W.heap.size W w'→Calls Tryz.prog 13 #[.agg (Su.cells s).toArray,.slice av L.length cv,.int .i64 ((60:Nat):Int)] w' (pf w' (yC s) L 60):=fun w' hb=>kc s hs L hd _ (aq hr hb) 60 (by omega)
 obtain ⟨c,hc⟩:∃ c,c=yC s:=⟨_,rfl⟩
 rw [← hc] at hpl hcf hat
 obtain ⟨SA,hSA⟩:∃ SA,SA=(Su.cells s).toArray:=⟨_,rfl⟩
 rw [← hSA] at hpl ⊢
 have HSI:=Ib (show (Tryz.prog.info? 24).map (·.size)=some SA.size by rw [hSA];show _=some 16;kernel_rfl)
 have HOS:=Ib (outS_play hat.ok (up_play hcf L (by omega)))
 have HFc:=Ib hcf
 have HPl:=Ib hpl
 have HF:=Ib hcf
 have HAt:=Ib hat
 have HK:=Ib (show (W.alloc (.cells SA 24 (0,0))).heap[W.heap.size]?=some (.cells SA 24 (0,0)) from au _ rfl)
 have HB0:=Ib (show Below W.heap.size W (W.alloc (.cells SA 24 (0,0))) from (Ic _ _).alloc (Ij _) _)
 clear hs hd hr hcf hc hSA hat hpl
 go_enter Tryz.func5,Tryz.ntmps5
 go_wp2_with (first|(refine t7 rfl 24 (.tmp 2) rfl W.heap.size rfl 24 SA (0,0) _ HK.out Tryz.underlying24 rfl HSI.out ?_)|(go_at_call 13;refine (HPl.out _ HB0.out).mono ?_;rintro e w1 ⟨p,VL,MS,vs,vg,rfl,hpg,hb1⟩;have hw1:=HB0.out.trans (hb1.mono HB0.out.size);have HW1:=Ib hw1;have HPg:=Ib hpg;clear hb1 hpg hw1))
 obtain ⟨P,hP⟩:∃ P,P=fW (di c) L 60:=⟨_,rfl⟩
 rw [← hP] at HPg HAt
 have HPE:=Ib hP
 obtain ⟨as_,cs_,hx16,hst⟩:=HPg.out.rd
 have HX16:=Ib hx16
 have HSt:=Ib hst
 have hlp:=lt_of_block HPg.out.bk
 have HLp:=Ib hlp
 clear hP hx16 hst hlp
 go_loopw [7] (fun i wr=>∃ k:Nat,k≤P.steps.length∧i=.int .i64 k∧Below w1.heap.size w1 wr) (fun i _=>P.steps.length - (intOf i).toNat)
 case atStart=>exact ⟨0,Ik _,rfl,Ic _ _⟩
 case round=>
  obtain ⟨k,hk,rfl,hbr⟩:=hrel
  have HBr:=Ib hbr
  have x16:=ae hbr HX16.out HLp.out
  have hlen:P.steps.length≤2000:=by have h1:=HAt.out.len;simp at h1;omega
  clear hbr
  rcases (show k<P.steps.length∨k=P.steps.length by omega) with hlt|rfl
  ·have hlt':(k:Int)<(P.steps.length:Int):=by omega
   have k0:(0:Int)≤(k:Int):=by omega
   obtain ⟨bs,os,rfl,hbs,hrg⟩:=HSt.out (by omega)
   have hrg':=iB HBr.out hbs (hrg k hlt)
   have hpgr:=HPg.out.below HBr.out
   have hws:=hpgr.ws k hlt
   have hok:=HAt.out.ok.st (P.steps.getD k Stp.zero) (by rw [aK hlt];exact Iw _)
   obtain ⟨s,hs⟩:∃ s,s=P.steps.getD k Stp.zero:=⟨_,rfl⟩
   obtain ⟨m,hm⟩:∃ m,m=MS.getD k Ms.zero:=⟨_,rfl⟩
   rw [← hs] at hrg' hws hok
   rw [← hm] at hrg' hws
   have hsi:=tV s m
   have h1c:=tM hws
   have hsl:=kF s m
   obtain ⟨SL,hSL⟩:∃ SL,SL=lc s m:=⟨_,rfl⟩
   rw [← hSL] at hrg' hsi h1c hsl
   have HRg:=Ib hrg'
   have HSi:=Ib hsi
   have HSz:=Ib (show (Tryz.prog.info? 62).map (·.size)=some SL.toArray.size by rw [hsi];simp)
   have H1c:=Ib h1c
   have HSl:=Ib hsl
   have HSL:=Ib hSL
   have HWs:=Ib hws
   have HOk:=Ib hok
   have HS:=Ib hs
   have HM:=Ib hm
   clear hrg hrg' hpgr hws hok hs hm hsi h1c hsl hSL
   have hmem:s∈P.steps:=by rw [HS.out,aK hlt];exact Iw _
   have hos:OutS s:=HOS.out s (by rw [← HPE.out];exact hmem)
   obtain ⟨kd,hkd⟩:∃ kd,kd=s.ev.kind:=⟨_,rfl⟩
   have HOs:=Ib hos
   have HKd:=Ib hkd
   have hcfb:=HOk.out.2.2.2.2.2.2.1
   have HCf:=Ib hcfb
   have HgB:=Ib HOk.out.1.gw
   have HgA:=Ib HOk.out.2.1.gw
   have xp0:=HPg.out.below HBr.out
   have HPr:=Ib xp0
   clear hos hkd hmem hcfb xp0
   go_wp2_with (first|(refine wpList_load_mid rfl 62 (.tmp 33) rfl bs (os+k*61) rfl SL _ HRg.out Tryz.underlying62 rfl HSi.out ?_)|(refine IP rfl 62 (.tmp 8) (.tmp 34) rfl wr.heap.size SL.toArray rfl rfl 62 _ (au _ rfl) HSz.out (by simp [HSl.out]) H1c.out ?_;refine aW _ (fun w2 hw2=>?_);have hb2:Below wr.heap.size wr w2:=(by rw [hw2];exact aQ ((Ic _ _).alloc (Ij _) _) (Ij _));have hbx:w2.heap[wr.heap.size]?=some (.cells SL.toArray 62 (0,0)):=(by rw [hw2];exact aX (au _ rfl));have HB2:=Ib hb2;have HBx:=Ib hbx;clear hw2 hb2 hbx))
   have gB:=zg HWs.out HB2.out (by rw [HBx.out,HSL.out])
   have gA:=zh HWs.out HB2.out (by rw [HBx.out,HSL.out])
   have hzr:=HB2.out.size
   obtain ⟨bx,hbx⟩:∃ bx,bx=wr.heap.size:=⟨_,rfl⟩
   rw [← hbx] at gB gA HBx ⊢
   clear hbx
   obtain ⟨wo,rfl⟩:∃ wo:World,wo=wr:=⟨_,rfl⟩
   have HGA:=Ib gA
   have HGB:=Ib gB
   obtain ⟨LB,hLB⟩:∃ LB,LB=cQ s.be m.b:=⟨_,rfl⟩
   obtain ⟨LA,hLA⟩:∃ LA,LA=cQ s.af m.a:=⟨_,rfl⟩
   have HLB:=Ib hLB
   have HLA:=Ib hLA
   have HIB:=Ib (show (Tryz.prog.info? 54).map (·.size)=some LB.length by rw [hLB,fH];kernel_rfl)
   have HIA:=Ib (show (Tryz.prog.info? 54).map (·.size)=some LA.length by rw [hLA,fH];kernel_rfl)
   clear gA gB hLB hLA
   obtain ⟨bh,oh,ch,x56,hbh,hqh⟩:=HGA.out.hh HgA.out.hl
   obtain ⟨bg,og,cg,x30,hbg,hqg⟩:=HGB.out.hh HgB.out.hl
   have y0:w2.cell? ⟨bx,0,none⟩=some (.int .i64 kd):=by rw [aa HBx.out 0,HSL.out,HKd.out];rfl
   have HY0:=Ib y0
   have HX56:=Ib (show w2.cell? ⟨bx,56,none⟩=some (.slice (some ⟨bh,oh,none⟩) 12 ch) from x56)
   have HX30:=Ib (show w2.cell? ⟨bx,30,none⟩=some (.slice (some ⟨bg,og,none⟩) 12 cg) from x30)
   have HQh:=Ib hqh
   have HQg:=Ib hqg
   have HBh:=Ib hbh
   have HBg:=Ib hbg
   have HLt:=Ib HGA.out.lt
   obtain ⟨nw,hnw⟩:∃ n,n=s.af.now:=⟨_,rfl⟩
   have HX50:=Ib (show w2.cell? ⟨bx,50,none⟩=some (.int .i64 nw) by rw [hnw];exact HGA.out.c 16 _ rfl)
   have HNw:=Ib hnw
   have hn0:=HgA.out.n0
   have hn1:=HgA.out.n1
   rw [← hnw] at hn0 hn1
   have xp9:w2.cell? ⟨p,9,none⟩=some (.int .i64 c.most):=by have h1:=(HPr.out.below HB2.out).bk;rw [aa h1 9];rfl
   have HXp:=Ib xp9
   have HpL:=Ib (lt_of_block (HPr.out.below HB2.out).bk)
   clear hqh hqg x56 x30 hbh hbg y0 hnw xp9
   go_wp2
   go_loopw [9,10,11,12] (fun was is act b wr=>∃ j:Nat,j≤12∧b=.int .i64 j∧was=.int .i64 (outU s.be j:Nat)∧is=.int .i64 (outU s.af j:Nat)∧act=.int .i64 (actU s.af.lives j:Nat)∧Below w2.heap.size w2 wr) (fun _ _ _ b _=>12 - (intOf b).toNat)
   case atStart=>exact ⟨0,by omega,rfl,rfl,rfl,rfl,Ic _ _⟩
   case round=>
    obtain ⟨j,hj,rfl,rfl,rfl,rfl,hbj⟩:=hrel
    have HBj:=Ib hbj
    have hzj:=hbj.size
    have hl1:=outU_le s.be j
    have hl2:=outU_le s.af j
    have hl3:=actU_le s.af.lives j
    rcases (show j<12∨j=12 by omega) with hlj|rfl
    ·have hlj':(j:Int)<12:=by omega
     have j0:(0:Int)≤(j:Int):=by omega
     have RAj:=Ib (show wr.rangeAt bx 34 LA by rw [HLA.out];exact (HGA.out.below hbj).rg)
     obtain ⟨so,hso⟩:∃ q,q=gp s.af.lives (j:Nat):=⟨_,rfl⟩
     obtain ⟨sbzz,hsb⟩:∃ q,q=gp s.be.lives (j:Nat):=⟨_,rfl⟩
     obtain ⟨ta,hta⟩:∃ q,q=(s.af.health.getD j Ht.zero).out:=⟨_,rfl⟩
     obtain ⟨tb,htb⟩:∃ q,q=(s.be.health.getD j Ht.zero).out:=⟨_,rfl⟩
     obtain ⟨uazz,hua⟩:∃ q,q=(s.af.health.getD j Ht.zero).until_:=⟨_,rfl⟩
     have hSA:∀ w',Below wr.heap.size wr w'→Calls Tryz.prog 15 #[.agg LA.toArray,.int .i64 (j:Int)] w' (fun e w''=>e=.returned (.int .i64 so)∧Below w'.heap.size w' w''):=fun w' hb'=>by rw [HLA.out,hso];exact prog_stateOf (HGA.out.below (hbj.trans (hb'.mono hzj))).wa HgA.out.bk j
     have hSB:∀ w',Below w2.heap.size w2 w'→Calls Tryz.prog 15 #[.agg LB.toArray,.int .i64 (j:Int)] w' (fun e w''=>e=.returned (.int .i64 sbzz)∧Below w'.heap.size w' w''):=fun w' hb'=>by rw [HLB.out,hsb];exact prog_stateOf (HGB.out.below hb').wa HgB.out.bk j
     have c1:w2.cell? ⟨bh,oh+j*4+1,none⟩=some (.bool ta):=by rw [HQh.out j 1 hlj (by omega),hta];rfl
     have c2:w2.cell? ⟨bh,oh+j*4+2,none⟩=some (.int .i64 uazz):=by rw [HQh.out j 2 hlj (by omega),hua];rfl
     have cb:w2.cell? ⟨bg,og+j*4+1,none⟩=some (.bool tb):=by rw [HQg.out j 1 hlj (by omega),htb];rfl
     have hU:ta=true→¬ uazz≤nw∧¬ nw+500<uazz:=fun h=>by rw [hua,HNw.out];exact HOs.out.up j hlj (by rw [← hta];exact h)
     have hA:=cntA hso hta
     have hB:=cntB hsb htb
     have HSA:=Ib hSA
     have HSB:=Ib hSB
     have HC1:=Ib c1
     have HC2:=Ib c2
     have HCb:=Ib cb
     have hwn:IntKind.i64.wrap (nw+500)=nw+500:=IL _ (by omega)
     clear hSA hSB c1 c2 cb hso hsb hta htb hua hbj
     rcases hA with ⟨rfl,rfl,eA,eIzz⟩|⟨rfl,rfl,eA,eIzz⟩|⟨d2,rfl,eA,eIzz⟩|⟨d2,rfl,eA,eIzz⟩
     all_goals (rcases hB with ⟨rfl,rfl,eWzz⟩|⟨rfl,rfl,eWzz⟩|⟨d3,eWzz⟩)
     all_goals (try (obtain ⟨g1,g2⟩:=hU rfl;clear hU))
     all_goals (
      go_wp2_with (refine wpList_load_mid rfl 54 (.tmp 39) rfl bx 34 rfl LA _ RAj.out Tryz.underlying54 rfl HIA.out ?_)
      refine (HSA.out _ (Ic _ _)).mono ?_
      rintro e w3 ⟨rfl,hb3⟩
      have B23:=Ib (HBj.out.trans (hb3.mono hzj))
      have RB3:=Ib (show w3.rangeAt bx 8 LB by rw [HLB.out];exact (HGB.out.below B23.out).rg)
      have x56:=ae B23.out HX56.out HLt.out
      have o1:=ae B23.out HC1.out HBh.out
      clear hb3
      go_wp2_with (refine wpList_load_mid rfl 54 (.tmp 55) rfl bx 8 rfl LB _ RB3.out Tryz.underlying54 rfl HIB.out ?_)
      refine (HSB.out _ B23.out).mono ?_
      rintro e w4 ⟨rfl,hb4⟩
      have B24:=Ib (B23.out.trans (hb4.mono B23.out.size))
      have x56:=ae B24.out HX56.out HLt.out
      have x30:=ae B24.out HX30.out HLt.out
      have x50:=ae B24.out HX50.out HLt.out
      have o1:=ae B24.out HC1.out HBh.out
      have o2:=ae B24.out HC2.out HBh.out
      have p1:=ae B24.out HCb.out HBg.out
      clear hb4
      go_wp2_with fail
      try go_quiet (fail)
      try go_wp2_with fail
      exact ⟨⟨j+1,by omega,by go_num,by rw [eWzz];(try go_num),by rw [eIzz];(try go_num),by rw [eA];(try go_num),by first|exact B24.out|exact aI B24.out⟩,by simp [intOf];omega⟩)
    ·have hgj:¬ (12:Int)<12:=by omega
     have xp9:=ae HBj.out HXp.out HpL.out
     have y0:=ae HBj.out HY0.out HLt.out
     have han:=fun h=>HOs.out.an h
     rw [HCf.out,← HKd.out] at han
     have hmo:=HFc.out.1.2.2
     obtain ⟨mozz,hmo2⟩:∃ m,m=c.most:=⟨_,rfl⟩
     rw [← hmo2] at xp9 han
     have hm0:0≤mozz∧mozz≤100:=by rw [hmo2];have:=HFc.out.1.2.2;omega
     obtain ⟨nIzz,hnI⟩:∃ n,n=outU s.af 12:=⟨_,rfl⟩
     obtain ⟨nWzz,hnW⟩:∃ n,n=outU s.be 12:=⟨_,rfl⟩
     obtain ⟨nAzz,hnA⟩:∃ n,n=actU s.af.lives 12:=⟨_,rfl⟩
     rw [← hnI,← hnW,← hnA] at han
     rw [← hnI] at hl2 ⊢
     rw [← hnW] at hl1 ⊢
     rw [← hnA] at hl3 ⊢
     have hE:=HBr.out.trans ((HB2.out.trans (HBj.out.mono hzr)).mono HBr.out.size)
     have HEe:=Ib hE
     have hm2:0≤mozz*(nAzz:Int):=Int.mul_nonneg hm0.1 (by omega)
     have hm3:mozz*(nAzz:Int)≤100*12:=Int.mul_le_mul hm0.2 (by omega) (by omega) (by omega)
     have hw1:IntKind.i64.wrap ((nIzz:Int)*100)=(nIzz:Int)*100:=IL _ (by omega)
     have hw2:IntKind.i64.wrap (mozz*(nAzz:Int))=mozz*(nAzz:Int):=IL _ (by omega)
     clear hmo2 hmo hnI hnW hnA hbj hE
     by_cases h4:kd=4
     ·rcases han h4 with hle|hle
      ·have d1:¬ ((nWzz:Int)<(nIzz:Int)):=by omega
       subst h4
       clear han hle
       go_wp2
       go_roundw
       case rel=>exact ⟨k+1,by omega,by go_num,HEe.out⟩
       case measure=>simp [intOf];omega
      ·have d1:¬ (mozz*(nAzz:Int)<(nIzz:Int)*100):=by omega
       subst h4
       clear han hle
       by_cases d0:(nWzz:Int)<(nIzz:Int)
       ·go_wp2
        go_roundw
        case rel=>exact ⟨k+1,by omega,by go_num,HEe.out⟩
        case measure=>simp [intOf];omega
       ·go_wp2
        go_roundw
        case rel=>exact ⟨k+1,by omega,by go_num,HEe.out⟩
        case measure=>simp [intOf];omega
     ·have d4:(kd == 4)=false:=by simpa using h4
      clear han
      go_wp2
      go_roundw
      case rel=>exact ⟨k+1,by omega,by go_num,HEe.out⟩
      case measure=>simp [intOf];omega
  ·have hge:¬ (P.steps.length:Int)<(P.steps.length:Int):=by omega
   go_wp2
   go_ret
   exact ⟨rfl,HW1.out.trans (HBr.out.mono HW1.out.size)⟩
end Go.Proofs.YtocbhafgjepnjaaGreat
