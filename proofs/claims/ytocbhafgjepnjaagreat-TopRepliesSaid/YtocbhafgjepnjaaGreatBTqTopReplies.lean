/- Texts of the row's proof. Conditions: none. -/
import Derived.Test.YtocbhafgjepnjaaGreatK07
import Derived.Test.YtocbhafgjepnjaaGreatK43
import Derived.Test.YtocbhafgjepnjaaGreatBTpY
import Derived.Test.YtocbhafgjepnjaaGreatBTpV
import Derived.BigQuiet
namespace Go.Proofs.YtocbhafgjepnjaaGreat
set_option maxRecDepth 100000
set_option maxHeartbeats 8000000
open Go.RowKit
theorem walk_TopReplies (v0 v1:Value) (W:World) (o0:Is_Setup W v0) (o1:Is_sl_Deed W v1) :Calls Tryz.prog 8 #[v0,v1] W fun e w'=>e=.returned (.bool true)∧Below W.heap.size W w':=by
 obtain ⟨s,rfl,hs⟩:=o0
 obtain ⟨L,hr,hd,_⟩:=o1
 obtain ⟨av,cv,rfl,_⟩:=aj hr
 have hcf:=pa s
 have hat:=jD hcf L (most:=60) (by omega)
 have hpl:∀ w',Below W.heap.size W w'→Calls Tryz.prog 13 #[.agg (Su.cells s).toArray,.slice av L.length cv,.int .i64 ((60:Nat):Int)] w' (pf w' (yC s) L 60):=fun w' hb=>kc s hs L hd _ (aq hr hb) 60 (by omega)
 obtain ⟨c,hc⟩:∃ c,c=yC s:=⟨_,rfl⟩
 rw [← hc] at hpl hcf hat
 obtain ⟨SA,hSA⟩:∃ SA,SA=(Su.cells s).toArray:=⟨_,rfl⟩
 rw [← hSA] at hpl ⊢
 have HSI:=Ib (show (Tryz.prog.info? 24).map (·.size)=some SA.size by rw [hSA];show _=some 16;kernel_rfl)
 have HRO:=Ib (rep_play hcf L)
 have HPl:=Ib hpl
 have HF:=Ib hcf
 have HAt:=Ib hat
 have HK:=Ib (show (W.alloc (.cells SA 24 (0,0))).heap[W.heap.size]?=some (.cells SA 24 (0,0)) from au _ rfl)
 have HB0:=Ib (show Below W.heap.size W (W.alloc (.cells SA 24 (0,0))) from (Ic _ _).alloc (Ij _) _)
 clear hs hd hr hcf hc hSA hat hpl
 go_enter Tryz.func8,Tryz.ntmps8
 go_wp2_with (first|(refine t7 rfl 24 (.tmp 2) rfl W.heap.size rfl 24 SA (0,0) _ HK.out Tryz.underlying24 rfl HSI.out ?_)|(go_at_call 13;refine (HPl.out _ HB0.out).mono ?_;rintro e w1 ⟨p,VL,MS,vs,vg,rfl,hpg,hb1⟩;have hw1:=HB0.out.trans (hb1.mono HB0.out.size);have HW1:=Ib hw1;have HPg:=Ib hpg;clear hb1 hpg hw1))
 obtain ⟨P,hP⟩:∃ P,P=fW (di c) L 60:=⟨_,rfl⟩
 rw [← hP] at HPg HAt
 have HPE:=Ib hP
 obtain ⟨as_,cs_,hx16,hst⟩:=HPg.out.rd
 have HX16:=Ib hx16
 have HSt:=Ib hst
 have hlp:=lt_of_block HPg.out.bk
 have HLp:=Ib hlp
 clear hP hx16 hst hlp
 go_loopw [7] (fun i wr=>∃ k:Nat,k≤P.steps.length∧i=.int .i64 k∧Below w1.heap.size w1 wr) (fun i _=>P.steps.length - (intOf i).toNat)
 case atStart=>exact ⟨0,Ik _,rfl,Ic _ _⟩
 case round=>
  obtain ⟨k,hk,rfl,hbr⟩:=hrel
  have HBr:=Ib hbr
  have x16:=ae hbr HX16.out HLp.out
  have hlen:P.steps.length≤2000:=by have h1:=HAt.out.len;simp at h1;omega
  clear hbr
  rcases (show k<P.steps.length∨k=P.steps.length by omega) with hlt|rfl
  ·have hlt':(k:Int)<(P.steps.length:Int):=by omega
   have k0:(0:Int)≤(k:Int):=by omega
   obtain ⟨bs,os,rfl,hbs,hrg⟩:=HSt.out (by omega)
   have hrg':=iB HBr.out hbs (hrg k hlt)
   have hpgr:=HPg.out.below HBr.out
   have hws:=hpgr.ws k hlt
   have hok:=HAt.out.ok.st (P.steps.getD k Stp.zero) (by rw [aK hlt];exact Iw _)
   obtain ⟨s,hs⟩:∃ s,s=P.steps.getD k Stp.zero:=⟨_,rfl⟩
   obtain ⟨m,hm⟩:∃ m,m=MS.getD k Ms.zero:=⟨_,rfl⟩
   rw [← hs] at hrg' hws hok
   rw [← hm] at hrg' hws
   have hsi:=tV s m
   have h1c:=tM hws
   have hsl:=kF s m
   obtain ⟨SL,hSL⟩:∃ SL,SL=lc s m:=⟨_,rfl⟩
   rw [← hSL] at hrg' hsi h1c hsl
   have HRg:=Ib hrg'
   have HSi:=Ib hsi
   have HSz:=Ib (show (Tryz.prog.info? 62).map (·.size)=some SL.toArray.size by rw [hsi];simp)
   have H1c:=Ib h1c
   have HSl:=Ib hsl
   have HSL:=Ib hSL
   have HWs:=Ib hws
   have HOk:=Ib hok
   have HS:=Ib hs
   have HM:=Ib hm
   clear hrg hrg' hpgr hws hok hs hm hsi h1c hsl hSL
   have hmem:s∈P.steps:=by rw [HS.out,aK hlt];exact Iw _
   have hro:RepOk P:=by rw [HPE.out];exact HRO.out
   have hkp:Kept P.last s:=hro.k s hmem
   have hag:∀ j,j<k→Again (P.steps.getD j Stp.zero) s:=fun j hj=>by
    rw [HS.out,aK hlt,aK (show j<P.steps.length by omega)]
    exact List.pairwise_iff_getElem.1 hro.p j k (by omega) hlt hj
   obtain ⟨kd,hkd⟩:∃ kd,kd=s.ev.kind:=⟨_,rfl⟩
   obtain ⟨rq,hrq⟩:∃ q,q=s.ev.request:=⟨_,rfl⟩
   have HKp:=Ib hkp
   have HAg:=Ib hag
   have HKd:=Ib hkd
   have HRq:=Ib hrq
   clear hkp hag hkd hrq hro hmem
   go_upto_region 6 with (first|(refine wpList_load_mid rfl 62 (.tmp 31) rfl bs (os+k*61) rfl SL _ HRg.out Tryz.underlying62 rfl HSi.out ?_)|(refine IP rfl 62 (.tmp 8) (.tmp 32) rfl wr.heap.size SL.toArray rfl rfl 62 _ (au _ rfl) HSz.out (by simp [HSl.out]) H1c.out ?_;refine aW _ (fun w2 hw2=>?_);have hb2:Below wr.heap.size wr w2:=(by rw [hw2];exact aQ ((Ic _ _).alloc (Ij _) _) (Ij _));have hbx:w2.heap[wr.heap.size]?=some (.cells SL.toArray 62 (0,0)):=(by rw [hw2];exact aX (au _ rfl));have HB2:=Ib hb2;have HBx:=Ib hbx;clear hw2 hb2 hbx))
   have gB:=zg HWs.out HB2.out (by rw [HBx.out,HSL.out])
   have gA:=zh HWs.out HB2.out (by rw [HBx.out,HSL.out])
   have hzr:=HB2.out.size
   obtain ⟨bx,hbx⟩:∃ bx,bx=wr.heap.size:=⟨_,rfl⟩
   rw [← hbx] at gB gA HBx ⊢
   clear hbx
   obtain ⟨wo,rfl⟩:∃ wo:World,wo=wr:=⟨_,rfl⟩
   have HGA:=Ib gA
   have HGB:=Ib gB
   obtain ⟨LB,hLB⟩:∃ LB,LB=cQ s.be m.b:=⟨_,rfl⟩
   obtain ⟨LA,hLA⟩:∃ LA,LA=cQ s.af m.a:=⟨_,rfl⟩
   have HLB:=Ib hLB
   have HLA:=Ib hLA
   have HIB:=Ib (show (Tryz.prog.info? 54).map (·.size)=some LB.length by rw [hLB,fH];kernel_rfl)
   have HIA:=Ib (show (Tryz.prog.info? 54).map (·.size)=some LA.length by rw [hLA,fH];kernel_rfl)
   clear gA gB hLB hLA
   have y0:w2.cell? ⟨bx,0,none⟩=some (.int .i64 kd):=by rw [aa HBx.out 0,HSL.out,HKd.out];rfl
   by_cases ha:kd=5∨kd=6
   ·have ha':isAsk s.ev:=by unfold isAsk;rw [← HKd.out];exact ha
    have y5:w2.cell? ⟨bx,5,none⟩=some (.int .i64 rq):=by rw [aa HBx.out 5,HSL.out,HRq.out];rfl
    obtain ⟨a,T,_,ho⟩:=HKp.out ha'
    rw [← HRq.out] at ho
    obtain ⟨ao,co,x60,hq⟩:=Cp HWs.out HB2.out (by rw [HBx.out,HSL.out])
    have HOo:=Ib ho
    rw [ho] at x60 hq
    obtain ⟨bo,oo,rfl,hbo,q⟩:=hq (by simp)
    have a0:=q 0 0 (by simp) (by omega)
    have a1:=q 0 1 (by simp) (by omega)
    have a2:=q 0 2 (by simp) (by omega)
    have a3:=q 0 3 (by simp) (by omega)
    have a4:=q 0 4 (by simp) (by omega)
    have a5:=q 0 5 (by simp) (by omega)
    have a6:=q 0 6 (by simp) (by omega)
    simp only [List.getD_cons_zero,Out.cells,Il,Im,Nat.zero_mul,Nat.add_zero] at a0 a1 a2 a3 a4 a5 a6
    obtain ⟨tn,htn⟩:∃ n,n=T.length:=⟨_,rfl⟩
    rw [List.length_cons,← htn] at x60
    have HTn:=Ib htn
    have Ha:=Ib (And.intro a0 (And.intro a1 (And.intro a2 (And.intro a3 (And.intro a4 (And.intro a5 a6))))))
    have HBo:=Ib hbo
    have H60:=Ib x60
    have H5:=Ib y5
    have HLx:=Ib (lt_of_block HBx.out)
    have HAs:=Ib ha'
    have hln:decide (((tn:Int)+1)=0)=false:=by simp;omega
    have hln2:(((tn:Int)+1) == 0)=false:=by simp;omega
    have t1:(0:Int)<(tn:Int)+1:=by omega
    clear htn ho hq q ha' a1 a2 a3 a5 a6
    rcases ha with rfl|rfl
    all_goals (
     go_upto_region 7 with fail
     go_quiet (fail))
    all_goals (
     go_wp2
     go_loopw [9] (fun i wr=>∃ j:Nat,j≤k∧i=.int .i64 j∧Below w2.heap.size w2 wr) (fun i _=>k - (intOf i).toNat)
     case atStart=>exact ⟨0,Ik _,rfl,by repeat (first|exact Ic _ _|refine aI ?_|refine Id ?_)⟩
     case round=>
      obtain ⟨j,hj,rfl,hbj⟩:=hrel
      have HBj:=Ib hbj
      have hzj:=hbj.size
      rcases (show j<k∨j=k by omega) with hlj|rfl
      ·have hlj':(j:Int)<(k:Int):=by omega
       have j0:(0:Int)≤(j:Int):=by omega
       have hjP:j<P.steps.length:=by omega
       have hjp':(j:Int)<(P.steps.length:Int):=by omega
       have bj2:=HB2.out.trans (HBj.out.mono hzr)
       have bj:Below w1.heap.size w1 wr:=HBr.out.trans (bj2.mono HBr.out.size)
       have x16:=ae bj HX16.out HLp.out
       obtain ⟨b',o',e',hb',hrgj⟩:=HSt.out (by omega)
       cases e'
       have hrj:=iB bj hb' (hrgj j hjP)
       have hwy:=(HPg.out.below bj).ws j hjP
       have hagj:=HAg.out j hlj
       obtain ⟨y,hy⟩:∃ y,y=P.steps.getD j Stp.zero:=⟨_,rfl⟩
       obtain ⟨my,hmy⟩:∃ m,m=MS.getD j Ms.zero:=⟨_,rfl⟩
       rw [← hy] at hrj hwy hagj
       rw [← hmy] at hrj hwy
       have hyi:=tV y my
       have h1y:=tM hwy
       have hyl:=kF y my
       obtain ⟨YL,hYL⟩:∃ YL,YL=lc y my:=⟨_,rfl⟩
       rw [← hYL] at hrj hyi h1y hyl
       obtain ⟨yk,hyk⟩:∃ q,q=y.ev.kind:=⟨_,rfl⟩
       obtain ⟨yq,hyq⟩:∃ q,q=y.ev.request:=⟨_,rfl⟩
       have HRj:=Ib hrj
       have HYi:=Ib hyi
       have HYz:=Ib (show (Tryz.prog.info? 62).map (·.size)=some YL.toArray.size by rw [hyi];simp)
       have H1y:=Ib h1y
       have HYl:=Ib hyl
       have HYL:=Ib hYL
       have HWy:=Ib hwy
       have HAj:=Ib hagj
       have HYk:=Ib hyk
       have HYq:=Ib hyq
       have HBJ:=Ib bj
       clear hy hmy hrj hyi h1y hyl hYL hwy hagj hyk hyq bj bj2 hrgj hb'
       go_upto_region 13 with (first|(refine wpList_load_mid rfl 62 (.tmp 76) rfl bs (os+j*61) rfl YL _ HRj.out Tryz.underlying62 rfl HYi.out ?_)|(refine IP rfl 62 (.tmp 10) (.tmp 77) rfl wr.heap.size YL.toArray rfl rfl 62 _ (au _ rfl) HYz.out (by simp [HYl.out]) H1y.out ?_;refine aW _ (fun w3 hw3=>?_);have hb3:Below wr.heap.size wr w3:=(by rw [hw3];exact aQ ((Ic _ _).alloc (Ij _) _) (Ij _));have hby:w3.heap[wr.heap.size]?=some (.cells YL.toArray 62 (0,0)):=(by rw [hw3];exact aX (au _ rfl));have HB3:=Ib hb3;have HBy:=Ib hby;clear hw3 hb3 hby))
       have z0:w3.cell? ⟨wr.heap.size,0,none⟩=some (.int .i64 yk):=by rw [aa HBy.out 0,HYL.out,HYk.out];rfl
       have z5:w3.cell? ⟨wr.heap.size,5,none⟩=some (.int .i64 yq):=by rw [aa HBy.out 5,HYL.out,HYq.out];rfl
       have B23:=Ib (HBj.out.trans (HB3.out.mono hzj))
       have x5:=ae B23.out H5.out HLx.out
       by_cases hya:yk=5∨yk=6
       ·by_cases hyr:yq=rq
        ·obtain ⟨o,T',e1,e2,e3⟩:=HAj.out HAs.out (by unfold isAsk;rw [← HYk.out];exact hya) (by rw [← HYq.out,← HRq.out];exact hyr)
         rw [HOo.out] at e1
         injection e1 with e4 e5
         subst e4
         have tn0:tn=0:=by rw [HTn.out,e5];rfl
         obtain ⟨ay,cy,z60,hqy⟩:=Cp HWy.out HB3.out (by rw [HBy.out,HYL.out])
         rw [e2] at z60 hqy
         obtain ⟨boy,ooy,rfl,hboy,qy⟩:=hqy (by simp)
         have c0:=qy 0 0 (by simp) (by omega)
         have c1:=qy 0 1 (by simp) (by omega)
         have c2:=qy 0 2 (by simp) (by omega)
         have c3:=qy 0 3 (by simp) (by omega)
         have c4:=qy 0 4 (by simp) (by omega)
         have c5:=qy 0 5 (by simp) (by omega)
         have c6:=qy 0 6 (by simp) (by omega)
         simp only [List.getD_cons_zero,Out.cells,Il,Im,Nat.zero_mul,Nat.add_zero] at c0 c1 c2 c3 c4 c5 c6
         obtain ⟨ty,hty⟩:∃ n,n=T'.length:=⟨_,rfl⟩
         rw [List.length_cons,← hty] at z60
         obtain ⟨ar,cr,r54⟩:=HGA.out.rn
         obtain ⟨ab,cb,r28⟩:=HGB.out.rn
         rw [e3] at r54
         obtain ⟨rn,hrn⟩:∃ n,n=s.be.reqs.length:=⟨_,rfl⟩
         rw [← hrn] at r54 r28
         have x54:w3.cell? ⟨bx,54,none⟩=some (.slice ar rn cr):=ae B23.out r54 HLx.out
         have x28:w3.cell? ⟨bx,28,none⟩=some (.slice ab rn cb):=ae B23.out r28 HLx.out
         have x60:w3.cell? ⟨bx,60,none⟩=some (.slice (some ⟨bo,oo,none⟩) 1 co):=by have h1:=ae B23.out H60.out HLx.out;rw [tn0] at h1;exact h1
         have a0:=ae B23.out Ha.out.1 HBo.out
         have a1:=ae B23.out Ha.out.2.1 HBo.out
         have a2:=ae B23.out Ha.out.2.2.1 HBo.out
         have a3:=ae B23.out Ha.out.2.2.2.1 HBo.out
         have a4:=ae B23.out Ha.out.2.2.2.2.1 HBo.out
         have a5:=ae B23.out Ha.out.2.2.2.2.2.1 HBo.out
         have a6:=ae B23.out Ha.out.2.2.2.2.2.2 HBo.out
         have t2:(0:Int)<(ty:Int)+1:=by omega
         clear hty hrn r54 r28 e2 e3 e5 tn0 hqy qy hboy hln hln2 t1
         subst hyr
         rcases hya with rfl|rfl
         all_goals (
          go_upto_region 14 with fail
          go_quiet (fail)
          go_wp2
          go_roundw
          case rel=>exact ⟨j+1,by omega,by go_num,B23.out.trans ((show Below w3.heap.size w3 _ from Zb).mono B23.out.size)⟩
          case measure=>simp [intOf];omega)
        ·have e5:(yq == rq)=false:=by simpa using hyr
         rcases hya with rfl|rfl
         all_goals (
          go_wp2
          go_roundw
          case rel=>exact ⟨j+1,by omega,by go_num,B23.out.trans ((show Below w3.heap.size w3 _ from Zb).mono B23.out.size)⟩
          case measure=>simp [intOf];omega)
       ·have n5:¬ yk=5:=fun h=>hya (Or.inl h)
        have n6:¬ yk=6:=fun h=>hya (Or.inr h)
        have d5:(yk == 5)=false:=by simpa using n5
        have d6:(yk == 6)=false:=by simpa using n6
        clear hya
        go_wp2
        go_roundw
        case rel=>exact ⟨j+1,by omega,by go_num,B23.out.trans ((show Below w3.heap.size w3 _ from Zb).mono B23.out.size)⟩
        case measure=>simp [intOf];omega
      ·have hgj:¬ (j:Int)<(j:Int):=by omega
       go_wp2
       go_roundw
       case rel=>exact ⟨j+1,by omega,by go_num,HBr.out.trans ((HB2.out.trans (HBj.out.mono hzr)).mono HBr.out.size)⟩
       case measure=>simp [intOf];omega)
   ·have n5:¬ kd=5:=fun h=>ha (Or.inl h)
    have n6:¬ kd=6:=fun h=>ha (Or.inr h)
    have d5:(kd != 5)=true:=by simpa using n5
    have d6:(kd != 6)=true:=by simpa using n6
    clear ha
    go_wp2
    go_roundw
    case rel=>exact ⟨k+1,by omega,by go_num,HBr.out.trans (HB2.out.mono HBr.out.size)⟩
    case measure=>simp [intOf];omega
  ·have hge:¬ (P.steps.length:Int)<(P.steps.length:Int):=by omega
   go_wp2
   go_ret
   exact ⟨rfl,HW1.out.trans (HBr.out.mono HW1.out.size)⟩
end Go.Proofs.YtocbhafgjepnjaaGreat
