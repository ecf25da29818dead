/- Texts of the row's proof. Conditions: none. -/
import Derived.Test.YtfliffgmeobclaaGreatK07
import Derived.Test.YtfliffgmeobclaaGreatK43
import Derived.Test.YtfliffgmeobclaaGreatCTpY
import Derived.Test.YtfliffgmeobclaaGreatCTpCA
import Derived.Test.YtfliffgmeobclaaGreatCTpH
import Derived.BigQuiet
namespace Go.Proofs.YtfliffgmeobclaaGreat
set_option maxRecDepth 100000
set_option maxHeartbeats 8000000
open Go.RowKit
theorem walk_TopGone (v0 v1:Value) (W:World) (o0:Is_Setup W v0) (o1:Is_sl_Deed W v1) :Calls Tryz.prog 6 #[v0,v1] W fun e w'=>e=.returned (.bool true)∧Below W.heap.size W w':=by
 obtain ⟨s,rfl,hs⟩:=o0
 obtain ⟨L,hr,hd,_⟩:=o1
 obtain ⟨av,cv,rfl,_⟩:=aq hr
 have hcf:=Gl s
 have hat:=xM hcf L (most:=60) (by omega)
 have hpl:∀ w',Below W.heap.size W w'→Calls Tryz.prog 8 #[.agg (Su.cells s).toArray,.slice av L.length cv,.int .i64 ((60:Nat):Int)] w' (GG w' (Gm s) L 60):=fun w' hb=>GT s hs L hd _ (au hr hb) 60 (by omega)
 obtain ⟨c,hc⟩:∃ c,c=Gm s:=⟨_,rfl⟩
 rw [← hc] at hpl hcf hat
 obtain ⟨SA,hSA⟩:∃ SA,SA=(Su.cells s).toArray:=⟨_,rfl⟩
 rw [← hSA] at hpl ⊢
 have HSI:=Hm (show (Tryz.prog.info? 24).map (·.size)=some SA.size by rw [hSA];show _=some 16;kernel_rfl)
 have HPl:=Hm hpl
 have HF:=Hm hcf
 have HAt:=Hm hat
 have HK:=Hm (show (W.alloc (.cells SA 24 (0,0))).heap[W.heap.size]?=some (.cells SA 24 (0,0)) from az _ rfl)
 have HB0:=Hm (show Below W.heap.size W (W.alloc (.cells SA 24 (0,0))) from (Hn _ _).alloc (Hv _) _)
 clear hs hd hr hcf hc hSA hat hpl
 go_enter Tryz.func6,Tryz.ntmps6
 go_wp2_with (first|(refine Iq rfl 24 (.tmp 2) rfl W.heap.size rfl 24 SA (0,0) _ HK.out Tryz.underlying24 rfl HSI.out ?_)|(go_at_call 8;refine (HPl.out _ HB0.out).mono ?_;rintro e w1 ⟨p,VL,MS,vs,vg,rfl,hpg,hb1⟩;have hw1:=HB0.out.trans (hb1.mono HB0.out.size);have HW1:=Hm hw1;have HPg:=Hm hpg;clear hb1 hpg hw1))
 have hsl0:(iI (dy c) L 60).steps.length≤2000:=by have h1:=HAt.out.len;simp at h1;omega
 have HCt:=Hm (prog_outputs HPg.out HAt.out.ok hsl0)
 refine HCt.out.mono ?_
 rintro e w1 ⟨v,rfl,hrow,hb2⟩
 have HPg:=Hm (HPg.out.below hb2)
 have HW1:=Hm (HW1.out.trans (hb2.mono HW1.out.size))
 have HRow:=Hm (show aI w1 7 v ((outsA (iI (dy c) L 60)).map Out.cells) from hrow.1)
 have HSm:=Hm (gone_sum HAt.out.ok (gone_play HF.out L (most:=60) (by omega)))
 have HOl:=Hm (show (outsA (iI (dy c) L 60)).length≤_ from outs_le HAt.out.ok _ (Hv _))
 obtain ⟨O,hO⟩:∃ O,O=outsA (iI (dy c) L 60):=⟨_,rfl⟩
 rw [← hO] at HRow HSm HOl
 obtain ⟨av7,c7,ev7,_⟩:=aq HRow.out
 subst ev7
 clear hO hsl0 hrow hb2 HCt
 go_wp2
 obtain ⟨P,hP⟩:∃ P,P=iI (dy c) L 60:=⟨_,rfl⟩
 rw [← hP] at HPg HAt
 have HPE:=Hm hP
 obtain ⟨as_,cs_,hx16,hst⟩:=HPg.out.rd
 have HX16:=Hm hx16
 have HSt:=Hm hst
 have hlp:=lt_of_block HPg.out.bk
 have HLp:=Hm hlp
 clear hP hx16 hst hlp
 go_loopw [8,9] (fun g i wr=>∃ k:Nat,k≤P.steps.length∧i=.int .i64 k∧g=.int .i64 ((grL (P.steps.take k)).length:Nat)∧Below w1.heap.size w1 wr) (fun g i _=>P.steps.length - (intOf i).toNat)
 case atStart=>exact ⟨0,Hx _,rfl,rfl,Hn _ _⟩
 case round=>
  obtain ⟨k,hk,rfl,hrl,hbr⟩:=hrel
  have HBr:=Hm hbr
  have x16:=ah hbr HX16.out HLp.out
  have hlen:P.steps.length≤2000:=by have h1:=HAt.out.len;simp at h1;omega
  clear hbr
  rcases (show k<P.steps.length∨k=P.steps.length by omega) with hlt|rfl
  ·have hlt':(k:Int)<(P.steps.length:Int):=by omega
   have k0:(0:Int)≤(k:Int):=by omega
   obtain ⟨bs,os,rfl,hbs,hrg⟩:=HSt.out (by omega)
   have hrg':=Cm HBr.out hbs (hrg k hlt)
   have hpgr:=HPg.out.below HBr.out
   have hws:=hpgr.ws k hlt
   have hok:=HAt.out.ok.st (P.steps.getD k Stp.zero) (by rw [aN hlt];exact I8 _)
   obtain ⟨s,hs⟩:∃ s,s=P.steps.getD k Stp.zero:=⟨_,rfl⟩
   obtain ⟨m,hm⟩:∃ m,m=MS.getD k Ms.zero:=⟨_,rfl⟩
   rw [← hs] at hrg' hws hok
   rw [← hm] at hrg' hws
   have hsi:=info_St s m
   have h1c:=one_stw hws
   have hsl:=ti s m
   obtain ⟨SL,hSL⟩:∃ SL,SL=mg s m:=⟨_,rfl⟩
   rw [← hSL] at hrg' hsi h1c hsl
   have HRg:=Hm hrg'
   have HSi:=Hm hsi
   have HSz:=Hm (show (Tryz.prog.info? 81).map (·.size)=some SL.toArray.size by rw [hsi];simp)
   have H1c:=Hm h1c
   have HSl:=Hm hsl
   have HSL:=Hm hSL
   have HWs:=Hm hws
   have HOk:=Hm hok
   have HS:=Hm hs
   have HM:=Hm hm
   clear hrg hrg' hpgr hws hok hs hm hsi h1c hsl hSL
   have hgn:=gr_next hlt
   have hg0:(grL (P.steps.take k)).length≤k:=by unfold grL;rw [I2];exact Ii (List.length_filter_le _ _) (List.length_take_le _ _)
   rw [← HS.out] at hgn
   obtain ⟨n0,hn0⟩:∃ n,n=(grL (P.steps.take k)).length:=⟨_,rfl⟩
   rw [← hn0] at hrl hgn hg0
   subst hrl
   obtain ⟨kd,hkd⟩:∃ kd,kd=s.ev.kind:=⟨_,rfl⟩
   have HKd:=Hm hkd
   have HGn:=Hm hgn
   clear hkd hgn hn0
   go_upto_region 8 with (first|(refine wpList_load_mid rfl 81 (.tmp 38) rfl bs (os+k*61) rfl SL _ HRg.out Tryz.underlying81 rfl HSi.out ?_)|(refine Ir rfl 81 (.tmp 10) (.tmp 39) rfl wr.heap.size SL.toArray rfl rfl 81 _ (az _ rfl) HSz.out (by simp [HSl.out]) H1c.out ?_;refine aY _ (fun w2 hw2=>?_);have hb2:Below wr.heap.size wr w2:=(by rw [hw2];exact aW ((Hn _ _).alloc (Hv _) _) (Hv _));have hbx:w2.heap[wr.heap.size]?=some (.cells SL.toArray 81 (0,0)):=(by rw [hw2];exact aZ (az _ rfl));have HB2:=Hm hb2;have HBx:=Hm hbx;clear hw2 hb2 hbx))
   have gB:=step_be HWs.out HB2.out (by rw [HBx.out,HSL.out])
   have gA:=step_af HWs.out HB2.out (by rw [HBx.out,HSL.out])
   have hzr:=HB2.out.size
   obtain ⟨bx,hbx⟩:∃ bx,bx=wr.heap.size:=⟨_,rfl⟩
   rw [← hbx] at gB gA HBx ⊢
   clear hbx
   obtain ⟨wo,rfl⟩:∃ wo:World,wo=wr:=⟨_,rfl⟩
   have HGA:=Hm gA
   have HGB:=Hm gB
   obtain ⟨LB,hLB⟩:∃ LB,LB=dj s.be m.b:=⟨_,rfl⟩
   obtain ⟨LA,hLA⟩:∃ LA,LA=dj s.af m.a:=⟨_,rfl⟩
   have HLB:=Hm hLB
   have HLA:=Hm hLA
   have HIB:=Hm (show (Tryz.prog.info? 63).map (·.size)=some LB.length by rw [hLB,iT];kernel_rfl)
   have HIA:=Hm (show (Tryz.prog.info? 63).map (·.size)=some LA.length by rw [hLA,iT];kernel_rfl)
   clear gA gB hLB hLA
   have y0:w2.cell? ⟨bx,0,none⟩=some (.int .i64 kd):=by rw [ae HBx.out 0,HSL.out,HKd.out];rfl
   have hE:Below w1.heap.size w1 w2:=HBr.out.trans (HB2.out.mono HBr.out.size)
   have HE:=Hm hE
   have hno:grS s=false→(grL (P.steps.take (k+1))).length=n0:=fun h=>by have h1:=HGn.out;rw [h] at h1;simpa using h1
   have hyes:grS s=true→(grL (P.steps.take (k+1))).length=n0+1:=fun h=>by have h1:=HGn.out;rw [h] at h1;simpa using h1
   have HNo:=Hm hno
   have HYes:=Hm hyes
   clear hE hno hyes
   by_cases h6:kd=6
   ·obtain ⟨ao,co,x60,hq⟩:=step_out HWs.out HB2.out (by rw [HBx.out,HSL.out])
    rcases (show s.out=[]∨∃ o T,s.out=o :: T by cases s.out with|nil=>exact Or.inl rfl|cons o T=>exact Or.inr ⟨o,T,rfl⟩) with ho|⟨o,T,ho⟩
    ·have hg:=HNo.out (by unfold grS;rw [ho];simp)
     rw [ho] at x60
     have x60':w2.cell? ⟨bx,60,none⟩=some (.slice ao 0 co):=x60
     subst h6
     clear x60 hq ho
     go_wp2
     go_roundw
     case rel=>exact ⟨k+1,by omega,by go_num,by rw [hg],HE.out⟩
     case measure=>simp [intOf];omega
    ·have hgs:grS s=(o.code == 0 && decide (s.be.reqs.length<s.af.reqs.length)):=by unfold grS;rw [← HKd.out,h6,ho];simp
     rw [ho] at x60 hq
     obtain ⟨bo,oo,rfl,hbo,q⟩:=hq (by simp)
     have a5:=q 0 5 (by simp) (by omega)
     obtain ⟨o0,o1,o2,o3,o4,o5,o6⟩:=o
     simp only [List.getD_cons_zero,Out.cells,Hy,Hz,Nat.zero_mul,Nat.add_zero] at a5
     simp only at hgs
     obtain ⟨tn,htn⟩:∃ n,n=T.length:=⟨_,rfl⟩
     rw [List.length_cons,← htn] at x60
     have t1:(0:Int)<(tn:Int)+1:=by omega
     obtain ⟨ar,cr,r54⟩:=HGA.out.rn
     obtain ⟨ab,cb,r28⟩:=HGB.out.rn
     obtain ⟨nazz,hna⟩:∃ n,n=s.af.reqs.length:=⟨_,rfl⟩
     obtain ⟨nb,hnb⟩:∃ n,n=s.be.reqs.length:=⟨_,rfl⟩
     rw [← hna] at r54 hgs
     rw [← hnb] at r28 hgs
     have x54:w2.cell? ⟨bx,54,none⟩=some (.slice ar nazz cr):=r54
     have x28:w2.cell? ⟨bx,28,none⟩=some (.slice ab nb cb):=r28
     have x60':w2.cell? ⟨bx,60,none⟩=some (.slice (some ⟨bo,oo,none⟩) (tn+1) co):=x60
     subst h6
     clear hq q ho htn hbo hna hnb r54 r28 x60
     by_cases h0:o5=0
     ·subst h0
      by_cases hl:nb<nazz
      ·have hg:=HYes.out (by rw [hgs];simp [hl])
       have hl':(nb:Int)<(nazz:Int):=by omega
       clear hgs
       go_wp2
       go_roundw
       case rel=>exact ⟨k+1,by omega,by go_num,by rw [hg];go_num,HE.out⟩
       case measure=>simp [intOf];omega
      ·have hg:=HNo.out (by rw [hgs];simp [hl])
       have hl':¬ (nb:Int)<(nazz:Int):=by omega
       clear hgs
       go_wp2
       go_roundw
       case rel=>exact ⟨k+1,by omega,by go_num,by rw [hg],HE.out⟩
       case measure=>simp [intOf];omega
     ·have hg:=HNo.out (by rw [hgs];simp [h0])
      have d0:(o5 == 0)=false:=by simpa using h0
      clear hgs
      go_wp2
      go_roundw
      case rel=>exact ⟨k+1,by omega,by go_num,by rw [hg],HE.out⟩
      case measure=>simp [intOf];omega
   ·have hg:=HNo.out (by unfold grS;rw [← HKd.out];simp [h6])
    have d6:(kd == 6)=false:=by simpa using h6
    go_wp2
    go_roundw
    case rel=>exact ⟨k+1,by omega,by go_num,by rw [hg],HE.out⟩
    case measure=>simp [intOf];omega
  ·have hge:¬ (P.steps.length:Int)<(P.steps.length:Int):=by omega
   rw [List.take_length] at hrl
   obtain ⟨n0,hn0⟩:∃ n,n=(grL P.steps).length:=⟨_,rfl⟩
   rw [← hn0] at hrl
   subst hrl
   rw [← HPE.out] at HSm HOl
   have hsm:=HSm.out.1
   rw [← hn0] at hsm
   have HN:=Hm hsm
   have HNd:=Hm HSm.out.2
   have hol:=HOl.out
   have hO3:O.length≤320000:=by omega
   have HGw:=Hm HAt.out.ok.wd.gw
   clear hn0 hsm hol
   go_wp2
   go_loopw [11,12] (fun g i w2=>∃ k:Nat,k≤O.length∧i=.int .i64 k∧g=.int .i64 ((gq (O.take k)).length:Nat)∧Below w1.heap.size w1 w2) (fun _ i _=>O.length - (intOf i).toNat)
   case atStart=>exact ⟨0,Hx _,rfl,rfl,by first|exact HBr.out|exact aJ HBr.out⟩
   case round=>
    obtain ⟨k,hk,rfl,rfl,hbk⟩:=hrel
    have HBk:=Hm hbk
    have hgk:(gq (O.take k)).length≤k:=by unfold gq;rw [I2];exact Ii (List.length_filter_le _ _) (List.length_take_le _ _)
    clear hbk
    rcases (show k<O.length∨k=O.length by omega) with hlk|rfl
    ·have hlk':(k:Int)<(O.length:Int):=by omega
     have k0:(0:Int)≤(k:Int):=by omega
     have hne:=gq_next hlk
     obtain ⟨_,_,e1,_,_,_,pt⟩:=aK Out.zero HRow.out
     injection e1 with e1 _ e3
     obtain ⟨bo,oo,e4,hbo,q⟩:=pt (by intro e;rw [e] at hlk;simp at hlk)
     rw [← e1] at e4
     subst e4
     have a0:=ah HBk.out (q k 0 hlk (by omega)) hbo
     have a4:=ah HBk.out (q k 4 hlk (by omega)) hbo
     obtain ⟨x,hx⟩:∃ x,x=O.getD k Out.zero:=⟨_,rfl⟩
     rw [← hx] at a0 a4 hne
     have HX:=Hm hx
     have HQ:=Hm q
     obtain ⟨x0,x1,x2,x3,x4,x5,x6⟩:=x
     simp only [Nat.add_zero] at a0 a4
     simp only at hne
     clear hx pt e1 e3 q
     by_cases h9:x0=9
     ·subst h9
      rw [if_pos rfl] at hne
      have hnl:=congrArg List.length hne
      rw [I5,List.length_singleton] at hnl
      have HNl:=Hm hnl
      have HA4:=Hm (show w1.cell? ⟨bo,oo+k*7+4,none⟩=some (.int .i64 x4) by rw [HQ.out k 4 hlk (by omega),← HX.out];rfl)
      obtain ⟨gk,hgk2⟩:∃ g,g=(gq (O.take k)).length:=⟨_,rfl⟩
      rw [← hgk2] at HNl hgk ⊢
      clear hne hnl hgk2 a4
      go_wp2
      go_loopw [13] (fun j w3=>∃ m:Nat,m≤k∧j=.int .i64 m∧Below w1.heap.size w1 w3) (fun j _=>k - (intOf j).toNat)
      case atStart=>exact ⟨0,Hx _,rfl,by first|exact HBk.out|exact aJ HBk.out⟩
      case round=>
       obtain ⟨m,hm,rfl,hbm⟩:=hrel
       have HBm:=Hm hbm
       clear hbm
       rcases (show m<k∨m=k by omega) with hlm|rfl
       ·have hlm':(m:Int)<(k:Int):=by omega
        have hlo:(m:Int)<(O.length:Int):=by omega
        have m0:(0:Int)≤(m:Int):=by omega
        have b0:=ah HBm.out (HQ.out m 0 (by omega) (by omega)) hbo
        have b4:=ah HBm.out (HQ.out m 4 (by omega) (by omega)) hbo
        have a4:=ah HBm.out HA4.out hbo
        have htw:(O.getD m Out.zero).kind=9→(O.getD m Out.zero).request≠x4:=fun h=>by
         have h1:=gq_two HNd.out hlm hlk h (by rw [← HX.out])
         rw [← HX.out] at h1
         exact h1
        obtain ⟨y,hy⟩:∃ y,y=O.getD m Out.zero:=⟨_,rfl⟩
        rw [← hy] at b0 b4 htw
        clear hy
        obtain ⟨y0,y1,y2,y3,y4,y5,y6⟩:=y
        simp only [Nat.add_zero] at b0 b4
        simp only at htw
        have hE:∀ w',Below wr.heap.size wr w'→Below w1.heap.size w1 w':=fun w' h=>HBm.out.trans (h.mono HBm.out.size)
        have HE:=Hm hE
        clear hE
        by_cases hy9:y0=9
        ·subst hy9
         have hne2:=htw rfl
         have d4:(y4 == x4)=false:=by simpa using hne2
         clear htw hne2
         go_upto_region 19 with fail
         go_quiet (fail)
         go_wp2
         go_roundw
         case rel=>exact ⟨m+1,by omega,by go_num,HE.out _ Zb⟩
         case measure=>simp [intOf];omega
        ·have d9:(y0 == 9)=false:=by simpa using hy9
         clear htw
         go_upto_region 19 with fail
         go_quiet (fail)
         go_wp2
         go_roundw
         case rel=>exact ⟨m+1,by omega,by go_num,HE.out _ Zb⟩
         case measure=>simp [intOf];omega
       ·have hgm:¬ (m:Int)<(m:Int):=by omega
        go_wp2
        go_roundw
        case rel=>exact ⟨m+1,by omega,by go_num,by rw [HNl.out];go_num,HBm.out⟩
        case measure=>simp [intOf];omega
     ·have d9:(x0 != 9)=true:=by simpa using h9
      rw [if_neg h9,List.append_nil] at hne
      go_wp2
      go_roundw
      case rel=>exact ⟨k+1,by omega,by go_num,by rw [hne],HBk.out⟩
      case measure=>simp [intOf];omega
    ·have hgk2:¬ (O.length:Int)<(O.length:Int):=by omega
     rw [List.take_length] at hgk ⊢
     obtain ⟨nq,hnq⟩:∃ n,n=(gq O).length:=⟨_,rfl⟩
     rw [← hnq] at HN hgk ⊢
     clear hnq
     go_wp2
     go_loopw [14,15] (fun d b w2=>∃ j:Nat,j≤12∧b=.int .i64 j∧d=.int .i64 (drU P.last.lives j:Nat)∧Below w1.heap.size w1 w2) (fun _ b _=>12 - (intOf b).toNat)
     case atStart=>exact ⟨0,by omega,rfl,rfl,by first|exact HBk.out|exact aJ HBk.out⟩
     case round=>
      obtain ⟨j,hj,rfl,rfl,hbj⟩:=hrel
      have HBj:=Hm hbj
      have hzj:=hbj.size
      have hgj:=HPg.out.below hbj
      have hdl:=drU_le P.last.lives j
      have hrl:=pK hgj.bk
      obtain ⟨LW,hLW⟩:∃ LW,LW=dj P.last VL:=⟨_,rfl⟩
      have HIW:=Hm (show (Tryz.prog.info? 63).map (·.size)=some LW.length by rw [hLW,iT];kernel_rfl)
      rw [← hLW] at hrl
      have HRl:=Hm hrl
      have hst:Calls Tryz.prog 13 #[.agg LW.toArray,.int .i64 (j:Int)] wr fun e w'=>e=.returned (.int .i64 (gL P.last.lives (j:Nat)))∧Below wr.heap.size wr w':=by rw [hLW];exact prog_stateOf hgj.wl.wa HGw.out.bk j
      obtain ⟨sv,hsv⟩:∃ q,q=gL P.last.lives (j:Nat):=⟨_,rfl⟩
      rw [← hsv] at hst
      have HS2:=Hm hst
      have HSv:=Hm hsv
      have hlp3:=lt_of_block hgj.bk
      clear hbj hgj hrl hst hsv hLW
      rcases (show j<12∨j=12 by omega) with hlj|rfl
      ·have hlj':(j:Int)<12:=by omega
       go_wp2_with (refine wpList_load_mid rfl 63 (.tmp 117) rfl p 17 rfl LW _ HRl.out Tryz.underlying63 rfl HIW.out ?_)
       refine HS2.out.mono ?_
       rintro e w5 ⟨rfl,hb5⟩
       have HB5:=Hm (HBj.out.trans (hb5.mono hzj))
       clear hb5
       by_cases h3:sv=3
       ·have e2:=drU_y (HSv.out ▸ h3)
        subst h3
        go_wp2_with fail
        exact ⟨⟨j+1,by omega,by go_num,by rw [e2];go_num,HB5.out⟩,by simp [intOf];omega⟩
       ·have e2:=drU_n (fun h=>h3 (HSv.out.trans h))
        have d3:(sv == 3)=false:=by simpa using h3
        go_wp2_with fail
        exact ⟨⟨j+1,by omega,by go_num,by rw [e2],HB5.out⟩,by simp [intOf];omega⟩
      ·have hg12:¬ (12:Int)<12:=by omega
       obtain ⟨ndzz,hnd⟩:∃ n,n=drU P.last.lives 12:=⟨_,rfl⟩
       have hsum:=HN.out
       rw [← hnd] at hsum hdl ⊢
       have hs2:(n0:Int)=(nq:Int)+(ndzz:Int):=by omega
       have d1:((n0:Int) == (nq:Int)+(ndzz:Int))=true:=by simp;omega
       have hwn:IntKind.i64.wrap ((nq:Int)+(ndzz:Int))=(nq:Int)+(ndzz:Int):=Io _ (by omega)
       have HS3:=Hm hs2
       clear hsum hnd hs2
       go_wp2
       go_ret
       exact ⟨rfl,HW1.out.trans (HBj.out.mono HW1.out.size)⟩
end Go.Proofs.YtfliffgmeobclaaGreat
