/- Texts of the row's proof. Conditions: none. -/
import Derived.Test.YtocbhafgjepnjaaGreatK07
import Derived.Test.YtocbhafgjepnjaaGreatK43
import Derived.Test.YtocbhafgjepnjaaGreatK45
import Derived.Test.YtocbhafgjepnjaaGreatFTpA5
import Derived.Test.YtocbhafgjepnjaaGreatK34
import Derived.Test.YtocbhafgjepnjaaGreatK04
import Derived.BigQuiet
namespace Go.Proofs.YtocbhafgjepnjaaGreat
set_option maxRecDepth 100000
set_option maxHeartbeats 8000000
open Go.RowKit
theorem walk_TopRing (v0 v1:Value) (W:World) (o0:Is_Setup W v0) (o1:Is_sl_Deed W v1) :Calls Tryz.prog 9 #[v0,v1] W fun e w'=>e=.returned (.bool true)∧Below W.heap.size W w':=by
 obtain ⟨s,rfl,hs⟩:=o0
 obtain ⟨L,hr,hd,_⟩:=o1
 obtain ⟨av,cv,rfl,_⟩:=aj hr
 have hcf:=pa s
 have hat:=jD hcf L (most:=60) (by omega)
 have hpl:∀ w',Below W.heap.size W w'→Calls Tryz.prog 13 #[.agg (Su.cells s).toArray,.slice av L.length cv,.int .i64 ((60:Nat):Int)] w' (pf w' (yC s) L 60):=fun w' hb=>kc s hs L hd _ (aq hr hb) 60 (by omega)
 obtain ⟨c,hc⟩:∃ c,c=yC s:=⟨_,rfl⟩
 rw [← hc] at hpl hcf hat
 obtain ⟨SA,hSA⟩:∃ SA,SA=(Su.cells s).toArray:=⟨_,rfl⟩
 rw [← hSA] at hpl ⊢
 have HSI:=Ib (show (Tryz.prog.info? 24).map (·.size)=some SA.size by rw [hSA];show _=some 16;kernel_rfl)
 have HRI:=Ib (ringS_play hat.ok)
 have HPl:=Ib hpl
 have HF:=Ib hcf
 have HAt:=Ib hat
 have HK:=Ib (show (W.alloc (.cells SA 24 (0,0))).heap[W.heap.size]?=some (.cells SA 24 (0,0)) from au _ rfl)
 have HB0:=Ib (show Below W.heap.size W (W.alloc (.cells SA 24 (0,0))) from (Ic _ _).alloc (Ij _) _)
 clear hs hd hr hcf hc hSA hat hpl
 go_enter Tryz.func9,Tryz.ntmps9
 go_wp2_with (first|(refine t7 rfl 24 (.tmp 2) rfl W.heap.size rfl 24 SA (0,0) _ HK.out Tryz.underlying24 rfl HSI.out ?_)|(go_at_call 13;refine (HPl.out _ HB0.out).mono ?_;rintro e w1 ⟨p,VL,MS,vs,vg,rfl,hpg,hb1⟩;have hw1:=HB0.out.trans (hb1.mono HB0.out.size);have HW1:=Ib hw1;have HPg:=Ib hpg;clear hb1 hpg hw1))
 obtain ⟨P,hP⟩:∃ P,P=fW (di c) L 60:=⟨_,rfl⟩
 rw [← hP] at HPg HAt
 have HPE:=Ib hP
 obtain ⟨as_,cs_,hx16,hst⟩:=HPg.out.rd
 have HX16:=Ib hx16
 have HSt:=Ib hst
 have hlp:=lt_of_block HPg.out.bk
 have HLp:=Ib hlp
 clear hP hx16 hst hlp
 go_loopw [7] (fun i wr=>∃ k:Nat,k≤P.steps.length∧i=.int .i64 k∧Below w1.heap.size w1 wr) (fun i _=>P.steps.length - (intOf i).toNat)
 case atStart=>exact ⟨0,Ik _,rfl,Ic _ _⟩
 case round=>
  obtain ⟨k,hk,rfl,hbr⟩:=hrel
  have HBr:=Ib hbr
  have x16:=ae hbr HX16.out HLp.out
  have hlen:P.steps.length≤2000:=by have h1:=HAt.out.len;simp at h1;omega
  clear hbr
  rcases (show k<P.steps.length∨k=P.steps.length by omega) with hlt|rfl
  ·have hlt':(k:Int)<(P.steps.length:Int):=by omega
   have k0:(0:Int)≤(k:Int):=by omega
   obtain ⟨bs,os,rfl,hbs,hrg⟩:=HSt.out (by omega)
   have hrg':=iB HBr.out hbs (hrg k hlt)
   have hpgr:=HPg.out.below HBr.out
   have hws:=hpgr.ws k hlt
   have hok:=HAt.out.ok.st (P.steps.getD k Stp.zero) (by rw [aK hlt];exact Iw _)
   obtain ⟨s,hs⟩:∃ s,s=P.steps.getD k Stp.zero:=⟨_,rfl⟩
   obtain ⟨m,hm⟩:∃ m,m=MS.getD k Ms.zero:=⟨_,rfl⟩
   rw [← hs] at hrg' hws hok
   rw [← hm] at hrg' hws
   have hsi:=tV s m
   have h1c:=tM hws
   have hsl:=kF s m
   obtain ⟨SL,hSL⟩:∃ SL,SL=lc s m:=⟨_,rfl⟩
   rw [← hSL] at hrg' hsi h1c hsl
   have HRg:=Ib hrg'
   have HSi:=Ib hsi
   have HSz:=Ib (show (Tryz.prog.info? 62).map (·.size)=some SL.toArray.size by rw [hsi];simp)
   have H1c:=Ib h1c
   have HSl:=Ib hsl
   have HSL:=Ib hSL
   have HWs:=Ib hws
   have HOk:=Ib hok
   have HS:=Ib hs
   have HM:=Ib hm
   clear hrg hrg' hpgr hws hok hs hm hsi h1c hsl hSL
   have hmem:s∈P.steps:=by rw [HS.out,aK hlt];exact Iw _
   have hri:RingS s:=HRI.out s (by rw [← HPE.out];exact hmem)
   have HRi:=Ib hri
   have hcfb:=HOk.out.2.2.2.2.2.2.1
   have HCf:=Ib hcfb
   have HgB:=Ib HOk.out.1.gw
   have HEg:=Ib HOk.out.2.2.1
   have xp0:=HPg.out.below HBr.out
   have HPr:=Ib xp0
   clear hri hmem hcfb xp0
   go_upto_region 6 with (first|(refine wpList_load_mid rfl 62 (.tmp 35) rfl bs (os+k*61) rfl SL _ HRg.out Tryz.underlying62 rfl HSi.out ?_)|(refine IP rfl 62 (.tmp 8) (.tmp 36) rfl wr.heap.size SL.toArray rfl rfl 62 _ (au _ rfl) HSz.out (by simp [HSl.out]) H1c.out ?_;refine aW _ (fun w2 hw2=>?_);have hb2:Below wr.heap.size wr w2:=(by rw [hw2];exact aQ ((Ic _ _).alloc (Ij _) _) (Ij _));have hbx:w2.heap[wr.heap.size]?=some (.cells SL.toArray 62 (0,0)):=(by rw [hw2];exact aX (au _ rfl));have HB2:=Ib hb2;have HBx:=Ib hbx;clear hw2 hb2 hbx))
   have gB:=zg HWs.out HB2.out (by rw [HBx.out,HSL.out])
   have gA:=zh HWs.out HB2.out (by rw [HBx.out,HSL.out])
   have hzr:=HB2.out.size
   obtain ⟨bx,hbx⟩:∃ bx,bx=wr.heap.size:=⟨_,rfl⟩
   rw [← hbx] at gB gA HBx ⊢
   clear hbx
   obtain ⟨wo,rfl⟩:∃ wo:World,wo=wr:=⟨_,rfl⟩
   have HGA:=Ib gA
   have HGB:=Ib gB
   obtain ⟨LB,hLB⟩:∃ LB,LB=cQ s.be m.b:=⟨_,rfl⟩
   obtain ⟨LA,hLA⟩:∃ LA,LA=cQ s.af m.a:=⟨_,rfl⟩
   have HLB:=Ib hLB
   have HLA:=Ib hLA
   have HIB:=Ib (show (Tryz.prog.info? 54).map (·.size)=some LB.length by rw [hLB,fH];kernel_rfl)
   have HIA:=Ib (show (Tryz.prog.info? 54).map (·.size)=some LA.length by rw [hLA,fH];kernel_rfl)
   clear gA gB hLB hLA
   obtain ⟨ao,co,x60,hq⟩:=Cp HWs.out HB2.out (by rw [HBx.out,HSL.out])
   by_cases hl1:s.out.length=1
   ·obtain ⟨o,ho⟩:=List.length_eq_one_iff.1 hl1
    rw [ho] at x60 hq
    obtain ⟨bo,oo,rfl,hbo,q⟩:=hq (by simp)
    have a0:=q 0 0 (by simp) (by omega)
    have a3:=q 0 3 (by simp) (by omega)
    have hrs:=HRi.out o ho
    obtain ⟨o0,o1,o2,o3,o4,o5,o6⟩:=o
    simp only [List.getD_cons_zero,Out.cells,Il,Im,Nat.zero_mul,Nat.add_zero] at a0 a3
    simp only at hrs
    have x60':w2.cell? ⟨bx,60,none⟩=some (.slice (some ⟨bo,oo,none⟩) 1 co):=x60
    by_cases hk1:o0=1
    ·obtain ⟨hev,hpk⟩:=hrs hk1
     subst hk1
     have hgk0:=HEg.out.k0
     have hgk1:=HEg.out.k1
     obtain ⟨key,hkey⟩:∃ k,k=s.ev.key:=⟨_,rfl⟩
     rw [← hkey] at hgk0 hgk1 hpk
     obtain ⟨knzz,hkn⟩:=Iy hgk0
     have y1:w2.cell? ⟨bx,1,none⟩=some (.int .i64 key):=by rw [aa HBx.out 1,HSL.out,hkey];rfl
     rw [hkn] at hpk y1
     rw [Iu] at hpk
     have hk32:knzz<4294967296:=by omega
     have hrm:=HgB.out.ring
     have hrl:=jx hrm
     have hwb:=HGB.out.wa
     have hr2:aG w2 2 m.b.s (s.be.ring.map Sp.cells):=hwb.ro.sp.1
     obtain ⟨ar,cr,er,_⟩:=aj hr2
     have x29:w2.cell? ⟨bx,29,none⟩=some (.slice ar s.be.ring.length cr):=by rw [← er];exact HGB.out.c 21 _ rfl
     rw [er] at hr2
     have HRr:=Ib hr2
     have HWk:=Ib (show zS s.be.ring (knzz:Int) (gR s.be.ring (AS knzz)) 0 from Or.inr (Or.inr ⟨knzz,hrm,rfl,hk32,rfl,rfl⟩))
     have hpa:=HgB.out.pick knzz (but:=-1) (Or.inl rfl)
     rw [hpk] at hpa
     unfold uq at hpa
     rw [← lds_range HgB.out] at hpa
     have hpN:CV s.be (-1)=((s.be.flows.length:Nat):Int):=rfl
     rw [hpN,HCf.out] at hpa
     obtain ⟨WL,hWL⟩:∃ WL,WL=gR s.be.ring (AS knzz):=⟨_,rfl⟩
     rw [← hWL] at HWk hpa
     have HPa:=Ib hpa
     have h40:=HgB.out.len
     obtain ⟨af,cf_,x26⟩:=HGB.out.fn
     have x26':w2.cell? ⟨bx,26,none⟩=some (.slice af s.be.flows.length cf_):=x26
     have xpb:=(HPr.out.below HB2.out).bk
     have xp1:w2.cell? ⟨p,1,none⟩=some (.int .i64 c.num):=by rw [aa xpb 1];rfl
     have xp2:w2.cell? ⟨p,2,none⟩=some (.int .i64 c.den):=by rw [aa xpb 2];rfl
     have xp3:w2.cell? ⟨p,3,none⟩=some (.int .i64 c.tries):=by rw [aa xpb 3];rfl
     have HX:=Ib (And.intro xp1 (And.intro xp2 (And.intro xp3 (And.intro x26' (And.intro x60' a3)))))
     have lpx:=lt_of_block xpb
     have HLx:=Ib (And.intro lpx (And.intro HGB.out.lt hbo))
     clear hq q ho hrs hpk hkn hkey hrm hwb er hr2 hpa hpN hWL x26 xpb xp1 xp2 xp3 x26' lpx hbo hgk0 hgk1 x60 hev
     go_upto_region 7 with fail
     go_wp2_with (go_at_call 16;refine (uZ _ s.be.ring _ _ _ _ (aq HRr.out Zb) (by omega) HWk.out).mono ?_;rintro e w3 ⟨v3,rfl,R3,hb3⟩;obtain ⟨a3_,c3_,rfl,_⟩:=aj R3.1)
     have HB3:=Ib (show Below w2.heap.size w2 w3 from Ig (by first|exact Ic _ _|exact (Ic _ _).drew) (hb3.mono (by simp)))
     have HR3:=Ib R3.1
     have hz3:=HB3.out.size
     clear R3 hb3 y1 x29 x60' a0 a3
     obtain ⟨i0,hi,hi0,hi1,hi2⟩:=info_parts info_loadR
     go_wp2_with fail
     go_loopw [11,12] (fun l b wr=>∃ j:Nat,j≤12∧b=.int .i64 j∧wr.ownsRow w3.heap.size 80 3 l (ldsU s.be j).length ((ldsU s.be j).map Ld.cells).flatten∧Below w3.heap.size w3 wr) (fun _ b _=>12 - (intOf b).toNat)
     case atStart=>exact ⟨0,by omega,rfl,IK _ _ _ _,Ic _ _⟩
     case round=>
      obtain ⟨j,hj,rfl,hown,hbj⟩:=hrel
      obtain ⟨al,cl,rfl,_⟩:=aB hown
      have HBj:=Ib hbj
      have HOw:=Ib hown
      have hzj:=hbj.size
      have hll:=ldsU_le s.be j
      have HB2j:=Ib (HB3.out.trans (hbj.mono hz3))
      clear hbj hown
      rcases (show j<12∨j=12 by omega) with hlj|rfl
      ·have hlj':(j:Int)<12:=by omega
       have RBj:=Ib (show wr.rangeAt bx 8 LB by rw [HLB.out];exact (HGB.out.below HB2j.out).rg)
       have hS:∀ w',Below wr.heap.size wr w'→Calls Tryz.prog 15 #[.agg LB.toArray,.int .i64 (j:Int)] w' (fun e w''=>e=.returned (.int .i64 (gp s.be.lives (j:Nat)))∧Below w'.heap.size w' w''):=fun w' hb'=>by rw [HLB.out];exact prog_stateOf (HGB.out.below (HB2j.out.trans (hb'.mono HB2j.out.size))).wa HgB.out.bk j
       have hW:∀ w',Below wr.heap.size wr w'→Calls Tryz.prog 19 #[.agg LB.toArray,.int .i64 (j:Int)] w' (fun e w''=>e=.returned (.int .i64 (l9 s.be (j:Nat)))∧Below w'.heap.size w' w''):=fun w' hb'=>by rw [HLB.out];exact j5 (HGB.out.below (HB2j.out.trans (hb'.mono HB2j.out.size))).wa HgB.out j hlj
       have hF:∀ w',Below wr.heap.size wr w'→Calls Tryz.prog 20 #[.agg LB.toArray,.int .i64 (j:Int)] w' (fun e w''=>e=.returned (.int .i64 ((flB s.be (j:Nat):Nat):Int))∧Below w'.heap.size w' w''):=fun w' hb'=>by rw [HLB.out];exact prog_flowsOf (HGB.out.below (HB2j.out.trans (hb'.mono HB2j.out.size))).wa HgB.out.len j
       obtain ⟨svzz,hsv⟩:∃ q,q=gp s.be.lives (j:Nat):=⟨_,rfl⟩
       obtain ⟨wt,hwt⟩:∃ q,q=l9 s.be (j:Nat):=⟨_,rfl⟩
       obtain ⟨fl,hfl⟩:∃ q,q=((flB s.be (j:Nat):Nat):Int):=⟨_,rfl⟩
       rw [← hsv] at hS
       rw [← hwt] at hW
       rw [← hfl] at hF
       have hldu:ldU s.be j=⟨(j:Int),wt,fl⟩:=by unfold ldU;rw [hwt,hfl]
       have HS_:=Ib hS
       have HW_:=Ib hW
       have HF_:=Ib hF
       have HSv:=Ib hsv
       have HLd:=Ib hldu
       clear hS hW hF hsv hwt hfl hldu
       go_wp2_with (refine wpList_load_mid rfl 54 (.tmp 63) rfl bx 8 rfl LB _ RBj.out Tryz.underlying54 rfl HIB.out ?_)
       refine (HS_.out _ (Ic _ _)).mono ?_
       rintro e w4 ⟨rfl,hb4⟩
       have HB4:=Ib hb4
       have RB4:=Ib (iB hb4 (by have h1:=HGB.out.lt;have h2:=HB2j.out.size;omega) RBj.out)
       have hz4:=hb4.size
       clear hb4
       by_cases h2:svzz=2
       ·have e2:=ldsU_y (HSv.out ▸ h2)
        have hlx:=ldsU_le s.be (j+1)
        rw [HLd.out] at e2
        have HE2:=Ib e2
        subst h2
        have HO4:=Ib (bA HOw.out HB4.out)
        have lb4:bx<w4.heap.size:=by have h1:=HGB.out.lt;have h2:=HB2j.out.size;omega
        obtain ⟨nLzz,hnL⟩:∃ n,n=(ldsU s.be j).length:=⟨_,rfl⟩
        rw [← hnL] at HO4 hll ⊢
        have HNL:=Ib hnL
        have hz34:w3.heap.size≤w4.heap.size:=by omega
        clear e2 hnL
        go_upto_region 13 with fail
        have lb3:bx<w3.heap.size:=by have h1:=HGB.out.lt;omega
        (refine Zr (fun w':World=>Below w3.heap.size w4 w') (fun hHeld=>?_) (by (try dsimp only);(first|exact Ic _ _|exact (Ic _ _).drew|exact HG7.out|exact hs6.mono hz34|exact hs5.mono hz34|exact (hs6.alloc hs6.size _).mono hz34));refine dd 0 ?_;refine Zt 2 ?_;refine Zw 3 ?_ (hy:=yieldsIf_load_mid (by rfl) 54 (.tmp 70) rfl bx 8 rfl LB _ (fun _ hw'=>fM RB4.out (hw'.block bx lb3)) Tryz.underlying54 rfl HIB.out);refine Zt 4 ?_;refine Zt 6 ?_;refine Zw 7 ?_ (hy:=yieldsIf_load_mid (by rfl) 54 (.tmp 74) rfl bx 8 rfl LB _ (fun _ hw'=>fM RB4.out (hw'.block bx lb3)) Tryz.underlying54 rfl HIB.out);refine Zt 8 ?_;refine Z1 5 (fun K hK=>?_);go_simp;(first|(go_at_call 19;refine (HW_.out _ (HB4.out.trans ((show Below w4.heap.size w4 _ from Zb).mono hz4))).mono ?_;rintro e w5 ⟨rfl,hb5⟩;have hs5:Below w4.heap.size w4 w5:=Ig (by first|exact Ic _ _|exact (Ic _ _).drew) (hb5.mono (by simp));have hz5:=hs5.size;(try dsimp only))|(go_at_call 20;refine (HF_.out _ (HB4.out.trans (hs5.mono hz4))).mono ?_;rintro e w6 ⟨rfl,hb6⟩;have hs6:Below w4.heap.size w4 w6:=hs5.trans (hb6.mono hz5);have hz6:=hs6.size;(try dsimp only)));(try go_wp2_with fail);refine Zk hK (hS:=by (try dsimp only);(first|exact Ic _ _|exact (Ic _ _).drew|exact HG7.out|exact hs6.mono hz34|exact hs5.mono hz34|exact (hs6.alloc hs6.size _).mono hz34)) fun hHeld=>?_;clear hK K;refine Z1 9 (fun K hK=>?_);go_simp;(first|(go_at_call 19;refine (HW_.out _ (HB4.out.trans ((show Below w4.heap.size w4 _ from Zb).mono hz4))).mono ?_;rintro e w5 ⟨rfl,hb5⟩;have hs5:Below w4.heap.size w4 w5:=Ig (by first|exact Ic _ _|exact (Ic _ _).drew) (hb5.mono (by simp));have hz5:=hs5.size;(try dsimp only))|(go_at_call 20;refine (HF_.out _ (HB4.out.trans (hs5.mono hz4))).mono ?_;rintro e w6 ⟨rfl,hb6⟩;have hs6:Below w4.heap.size w4 w6:=hs5.trans (hb6.mono hz5);have hz6:=hs6.size;(try dsimp only)));(try go_wp2_with fail);refine Zk hK (hS:=by (try dsimp only);(first|exact Ic _ _|exact (Ic _ _).drew|exact HG7.out|exact hs6.mono hz34|exact hs5.mono hz34|exact (hs6.alloc hs6.size _).mono hz34)) fun hHeld=>?_;clear hK K;refine Zt 10 ?_;refine Z1 11 (fun K hK=>?_);go_simp;refine Zk hK (hS:=by (try dsimp only);(first|exact Ic _ _|exact (Ic _ _).drew|exact HG7.out|exact hs6.mono hz34|exact hs5.mono hz34|exact (hs6.alloc hs6.size _).mono hz34)) fun hHeld=>?_;clear hK K;refine Z1 12 (fun K hK=>?_);rw [if_pos (by rfl)];(refine eW _ (.tmp 68) (.tmp 79) 78 rfl w3.heap.size 80 i0 (.agg #[.int .i64 0,.int .i64 0,.int .i64 0]) 3 24 Tryz.underlying78 hi hi0 hi1 hi2 rfl (by decide) (.slice al nLzz cl) nLzz _ rfl (bA HO4.out (hs6.alloc hs6.size _)) ⟨w6.heap.size,0,none⟩ 1 1 (Ld.cells ⟨(j:Int),wt,fl⟩) rfl rfl (fun j u h=>fC (w:=w6) rfl _ 80 j u h) (ld_one _) (by unfold maxLen;omega) (by omega) (by simp;omega) ?_;intro v7 w7 hown7 hgr7 hnew7;obtain ⟨a7,c7,e7,_⟩:=aB hown7;subst e7;have HO7:=Ib hown7;have HG7:=Ib (cG (B:=w3.heap.size) (hs6.alloc hs6.size _) hz34 HO4.out hgr7);clear hown7 hgr7 hnew7);refine Zk hK (hS:=by (try dsimp only);(first|exact Ic _ _|exact (Ic _ _).drew|exact HG7.out|exact hs6.mono hz34|exact hs5.mono hz34|exact (hs6.alloc hs6.size _).mono hz34)) fun hHeld=>?_;clear hK K;refine Zt 13 ?_;refine Zd ?_)
        go_wp2_with fail
        exact ⟨⟨j+1,by omega,by go_num,by rw [HE2.out,It,IH,IC,← HNL.out];simpa using HO7.out,(HBj.out.trans (HB4.out.mono hzj)).trans HG7.out⟩,by simp [intOf];omega⟩
       ·have e2:=ldsU_n (fun h=>h2 (HSv.out.trans h))
        have d2:(svzz == 2)=false:=by simpa using h2
        go_wp2_with fail
        exact ⟨⟨j+1,by omega,by go_num,by rw [e2];exact bA HOw.out HB4.out,HBj.out.trans (HB4.out.mono hzj)⟩,by simp [intOf];omega⟩
      ·have hgj:¬ (12:Int)<12:=by omega
       have HRw:=Ib (aq HR3.out HBj.out)
       have HRl:=Ib (aC (L:=(ldsU s.be 12).map Ld.cells) HOw.out (by simp) (by intro c hc;obtain ⟨x,_,rfl⟩:=II.1 hc;rfl)).1
       have z1:=ae HB2j.out HX.out.1 HLx.out.1
       have z2:=ae HB2j.out HX.out.2.1 HLx.out.1
       have z3:=ae HB2j.out HX.out.2.2.1 HLx.out.1
       have z4:=ae HB2j.out HX.out.2.2.2.1 HLx.out.2.1
       obtain ⟨nLzz,hnL⟩:∃ n,n=(ldsU s.be 12).length:=⟨_,rfl⟩
       rw [← hnL] at HRl
       rw [← hnL]
       have lb1:bx<wr.heap.size:=by have h1:=HGB.out.lt;have h2:=HB2j.out.size;omega
       have lb2:p<wr.heap.size:=by have h1:=HLx.out.1;have h2:=HB2j.out.size;omega
       clear hnL
       go_wp2_with fail
       go_upto_region 14 with fail
       (refine Zr (fun w':World=>w'.cell? ⟨p,1,none⟩=some (.int .i64 c.num)∧w'.cell? ⟨p,2,none⟩=some (.int .i64 c.den)∧w'.cell? ⟨p,3,none⟩=some (.int .i64 c.tries)∧w'.cell? ⟨bx,26,none⟩=some (.slice af s.be.flows.length cf_)) (fun hHeld=>?_);refine eB 0 ?_;refine eB 8 ?_;refine eP 16 ?_;refine Zt 20 ?_;refine Z1 21 (fun K hK=>?_);go_simp;(go_at_call 21;refine (rX _ _ _ _ _ _ _ _ _ _ _ (aq HRw.out Zb) (aq HRl.out Zb) HPa.out).mono ?_;rintro e w5 ⟨rfl,hb5⟩;(try dsimp only));(try go_wp2_with fail);refine Zk hK fun hHeld=>?_;clear hK K;refine eP 22 ?_;refine Zt 26 ?_;refine Zd ?_)
       refine aW _ (fun w6 hw6=>?_)
       have hs6:Below wr.heap.size wr w6:=by rw [hw6];exact Ig (Id (Ic _ _)) (hb5.mono (by simp))
       have HB6:=Ib (HB2j.out.trans (hs6.mono HB2j.out.size))
       have x60:=ae HB6.out HX.out.2.2.2.2.1 HLx.out.2.1
       have a3:=ae HB6.out HX.out.2.2.2.2.2 HLx.out.2.2
       clear hw6 hs6 hb5 z1 z2 z3 z4
       go_wp2_with fail
       exact ⟨⟨k+1,by omega,by go_num,HBr.out.trans ((HB2.out.trans (HB6.out.mono hzr)).mono HBr.out.size)⟩,by simp [intOf];omega⟩
    ·have d1:(o0 != 1)=true:=by simpa using hk1
     clear hrs
     go_wp2
     go_roundw
     case rel=>exact ⟨k+1,by omega,by go_num,HBr.out.trans (HB2.out.mono HBr.out.size)⟩
     case measure=>simp [intOf];omega
   ·have d1:((s.out.length:Int) != 1)=true:=by simp;omega
    clear hq
    go_wp2
    go_roundw
    case rel=>exact ⟨k+1,by omega,by go_num,HBr.out.trans (HB2.out.mono HBr.out.size)⟩
    case measure=>simp [intOf];omega
  ·have hge:¬ (P.steps.length:Int)<(P.steps.length:Int):=by omega
   go_wp2
   go_ret
   exact ⟨rfl,HW1.out.trans (HBr.out.mono HW1.out.size)⟩
end Go.Proofs.YtocbhafgjepnjaaGreat
