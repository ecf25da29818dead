/- Texts of the row's proof. Conditions: none. -/
import Derived.Test.YtocbhafgjepnjaaGreatK07
import Derived.Test.YtocbhafgjepnjaaGreatDOpen
import Derived.Test.YtocbhafgjepnjaaGreatDTpH
import Derived.Test.YtocbhafgjepnjaaGreatDTpA3
import Derived.Test.YtocbhafgjepnjaaGreatK33
import Derived.BigQuiet
namespace Go.Proofs.YtocbhafgjepnjaaGreat
set_option maxRecDepth 100000
set_option maxHeartbeats 8000000
open Go.RowKit
theorem walk_TopOnRing (v0 v1 v2:Value) (W:World) (o0:Is_Setup W v0) (o1:Is_sl_Deed W v1) (o2:Is_int W v2):Calls Tryz.prog 6 #[v0,v1,v2] W fun e w'=>e=.returned (.bool true)∧Below W.heap.size W w':=by
 obtain ⟨s,rfl,hs⟩:=o0
 obtain ⟨L,hr,hd,_⟩:=o1
 obtain ⟨ky,rfl,iky⟩:=o2
 obtain ⟨ky0,ky1⟩:=iky
 obtain ⟨av,cv,rfl,_⟩:=aj hr
 have hcf:=pa s
 have hat:=jD hcf L (most:=60) (by omega)
 have hpl:∀ w',Below W.heap.size W w'→Calls Tryz.prog 13 #[.agg (Su.cells s).toArray,.slice av L.length cv,.int .i64 ((60:Nat):Int)] w' (pf w' (yC s) L 60):=fun w' hb=>kc s hs L hd _ (aq hr hb) 60 (by omega)
 obtain ⟨c,hc⟩:∃ c,c=yC s:=⟨_,rfl⟩
 rw [← hc] at hpl hcf hat
 obtain ⟨SA,hSA⟩:∃ SA,SA=(Su.cells s).toArray:=⟨_,rfl⟩
 rw [← hSA] at hpl ⊢
 have HSI:=Ib (show (Tryz.prog.info? 24).map (·.size)=some SA.size by rw [hSA];show _=some 16;kernel_rfl)
 have HPl:=Ib hpl
 have HAt:=Ib hat
 have HK:=Ib (show (W.alloc (.cells SA 24 (0,0))).heap[W.heap.size]?=some (.cells SA 24 (0,0)) from au _ rfl)
 have HB0:=Ib (show Below W.heap.size W (W.alloc (.cells SA 24 (0,0))) from (Ic _ _).alloc (Ij _) _)
 clear hs hd hr hcf hc hSA hat hpl
 go_enter Tryz.func6,Tryz.ntmps6
 go_wp2_with (first|(refine t7 rfl 24 (.tmp 3) rfl W.heap.size rfl 24 SA (0,0) _ HK.out Tryz.underlying24 rfl HSI.out ?_)|(go_at_call 13;refine (HPl.out _ HB0.out).mono ?_;rintro e w1 ⟨p,VL,MS,vs,vg,rfl,hpg,hb1⟩;have hw1:=HB0.out.trans (hb1.mono HB0.out.size);have HW1:=Ib hw1;have HPg:=Ib hpg;clear hb1 hpg hw1))
 obtain ⟨P,hP⟩:∃ P,P=fW (di c) L 60:=⟨_,rfl⟩
 rw [← hP] at HPg HAt
 obtain ⟨as_,cs_,hx16,hst⟩:=HPg.out.rd
 have HX16:=Ib hx16
 have HSt:=Ib hst
 have hlp:=lt_of_block HPg.out.bk
 have HLp:=Ib hlp
 clear hP hx16 hst hlp
 go_loopw [9] (fun i wr=>∃ k:Nat,k≤P.steps.length∧i=.int .i64 k∧Below w1.heap.size w1 wr) (fun i _=>P.steps.length - (intOf i).toNat)
 case atStart=>exact ⟨0,Ik _,rfl,Ic _ _⟩
 case round=>
  obtain ⟨k,hk,rfl,hbr⟩:=hrel
  have HBr:=Ib hbr
  have x16:=ae hbr HX16.out HLp.out
  have hlen:P.steps.length≤2000:=by have h1:=HAt.out.len;simp at h1;omega
  clear hbr
  rcases (show k<P.steps.length∨k=P.steps.length by omega) with hlt|rfl
  ·have hlt':(k:Int)<(P.steps.length:Int):=by omega
   have k0:(0:Int)≤(k:Int):=by omega
   obtain ⟨bs,os,rfl,hbs,hrg⟩:=HSt.out (by omega)
   have hrg':=rg_af (iB HBr.out hbs (hrg k hlt))
   have hws:=((HPg.out.below HBr.out).ws k hlt).a
   have hok:=(HAt.out.ok.st (P.steps.getD k Stp.zero) (by rw [aK hlt];exact Iw _)).2.1.gw
   obtain ⟨X,hX⟩:∃ X,X=(P.steps.getD k Stp.zero).af:=⟨_,rfl⟩
   obtain ⟨V,hV⟩:∃ V,V=(MS.getD k Ms.zero).a:=⟨_,rfl⟩
   rw [← hX] at hrg' hws hok
   rw [← hV] at hrg' hws
   have h1c:=kj hws
   obtain ⟨LA,hLA⟩:∃ LA,LA=cQ X V:=⟨_,rfl⟩
   have HIA:=Ib (show (Tryz.prog.info? 54).map (·.size)=some LA.length by rw [hLA,fH];kernel_rfl)
   have HIz:=Ib (show (Tryz.prog.info? 54).map (·.size)=some LA.toArray.size by rw [hLA];kernel_rfl)
   have HSz:=Ib (show LA.toArray.size=26 by rw [hLA];rfl)
   rw [← hLA] at hrg' h1c
   have HRg:=Ib hrg'
   have H1c:=Ib h1c
   have HLA:=Ib hLA
   have HWs:=Ib hws.wa
   have HGw:=Ib hok
   clear hrg hrg' hws hok hX hV h1c hLA
   go_upto_region 6 with (first|(refine wpList_load_mid rfl 54 (.tmp 37) rfl bs (os+k*61+34) rfl LA _ HRg.out Tryz.underlying54 rfl HIA.out ?_)|(refine IP rfl 54 (.tmp 10) (.tmp 38) rfl wr.heap.size LA.toArray rfl rfl 54 bQ (au _ rfl) HIz.out (by rw [HSz.out];rfl) H1c.out ?_;refine aW _ (fun w2 hw2=>?_);have hb2:Below wr.heap.size wr w2:=(by rw [hw2];exact aQ ((Ic _ _).alloc (Ij _) _) (Ij _));have hbx:w2.heap[wr.heap.size]?=some (.cells LA.toArray 54 (0,0)):=(by rw [hw2];exact aX (au _ rfl));have HB2:=Ib hb2;have HBx:=Ib hbx;clear hw2 hb2 hbx))
   have hzr:=HB2.out.size
   obtain ⟨bx,hbx⟩:∃ bx,bx=wr.heap.size:=⟨_,rfl⟩
   rw [← hbx] at HBx ⊢
   clear hbx
   obtain ⟨wo,rfl⟩:∃ wo:World,wo=wr:=⟨_,rfl⟩
   have hwa:=HWs.out.below HB2.out
   have HWa:=Ib hwa
   have hr2:aG w2 2 V.s (X.ring.map Sp.cells):=hwa.ro.sp.1
   obtain ⟨ar,cr,er,_⟩:=aj hr2
   have x21:w2.cell? ⟨bx,21,none⟩=some (.slice ar X.ring.length cr):=by rw [← er,aa HBx.out 21,HLA.out];rfl
   rw [er] at hr2
   have HRr:=Ib hr2
   have hrm:=HGw.out.ring
   have hrl:=jx hrm
   have hpk:=cP ky (m:=1000) (by decide)
   obtain ⟨knzz,hkn⟩:=Iy hpk.1
   have HWk:=Ib (show zS X.ring (pk ky 1000) (gR X.ring (AS knzz)) 0 from Or.inr (Or.inr ⟨knzz,hrm,hkn,by omega,rfl,rfl⟩))
   have hwl:=walk_len HGw.out (AS knzz)
   have hwm:=fun b=>walk_act HGw.out (AS knzz) b
   have hw12:=walk_len12 hrm (AS knzz)
   obtain ⟨WL,hWL⟩:∃ WL,WL=gR X.ring (AS knzz):=⟨_,rfl⟩
   rw [← hWL] at HWk hwl hwm hw12
   have HWl:=Ib hwl
   have HWm:=Ib hwm
   have lbx:=lt_of_block HBx.out
   clear hwa er hr2 hrm hpk hkn hwl hwm hWL
   refine join3 (P:=?jP1) (F:=fun a3 c3 wz=>Below w2.heap.size w2 wz∧aG wz 1 (.slice a3 WL.length c3) (WL.map fun x=>[Value.int .i64 x])) (fun key=>?jm1) ?jr1
   case jm1=>
    (refine Zr (fun w':World=>w'.cell? ⟨bx,21,none⟩=some (.slice ar X.ring.length cr)) (fun hHeld=>?_);refine dd 0 ?_;refine Zt 2 ?_;refine Z1 3 (fun K hK=>?_);go_simp;(first|(go_at_call 17;refine (bK _ _ _ (by omega) (by omega) (by omega) (by omega)).mono ?_;rintro e w3 ⟨rfl,rfl⟩)|(go_at_call 16;refine (uZ _ X.ring _ _ _ _ (aq HRr.out Zb) (by omega) HWk.out).mono ?_;rintro e w3 ⟨v3,rfl,R3,hb3⟩;obtain ⟨a3,c3,rfl,_⟩:=aj R3.1;have x21:=ae hb3 x21 lbx;(try dsimp only)));(try go_wp2_with fail);refine Zk hK fun hHeld=>?_;clear hK K;refine Z1 4 (fun K hK=>?_);go_simp;(first|(go_at_call 17;refine (bK _ _ _ (by omega) (by omega) (by omega) (by omega)).mono ?_;rintro e w3 ⟨rfl,rfl⟩)|(go_at_call 16;refine (uZ _ X.ring _ _ _ _ (aq HRr.out Zb) (by omega) HWk.out).mono ?_;rintro e w3 ⟨v3,rfl,R3,hb3⟩;obtain ⟨a3,c3,rfl,_⟩:=aj R3.1;have x21:=ae hb3 x21 lbx;(try dsimp only)));(try go_wp2_with fail);refine Zk hK fun hHeld=>?_;clear hK K;refine eP 5 ?_;refine Zt 9 ?_;refine Zd ?_)
    refine aW _ (fun wz hwz=>?_)
    refine key a3 c3 wz ⟨?_,?_⟩
    ·rw [hwz];exact Ig (Id (Ic _ _)) (hb3.mono (by simp))
    ·rw [hwz];simpa using R3.1
   case jr1=>
    intro a3 c3 wz hz
    have HBz:=Ib hz.1
    have HRz:=Ib hz.2
    have hkz:=ai hz.1 HBx.out lbx
    have HKz:=Ib hkz
    have hzz:=hz.1.size
    have lbz:=lt_of_block hkz
    clear hz hkz x21
    go_wp2
    go_loopw [13,14] (fun on b wr=>∃ j:Nat,j≤12∧b=.int .i64 j∧on=.int .i64 (actU X.lives j:Nat)∧Below wz.heap.size wz wr) (fun _ b _=>12 - (intOf b).toNat)
    case atStart=>exact ⟨0,by omega,rfl,rfl,Ic _ _⟩
    case round=>
     obtain ⟨j,hj,rfl,rfl,hbj⟩:=hrel
     have HBj:=Ib hbj
     have hzj:=hbj.size
     have hkj:=ai hbj HKz.out lbz
     have HKj:=Ib hkj
     have hal:=actU_le X.lives j
     have hwj:=HWa.out.below (HBz.out.trans (hbj.mono hzz))
     rcases (show j<12∨j=12 by omega) with hlj|rfl
     ·have hlj':(j:Int)<12:=by omega
      have hst:Calls Tryz.prog 15 #[.agg LA.toArray,.int .i64 (j:Int)] wr fun e w'=>e=.returned (.int .i64 (gp X.lives (j:Nat)))∧Below wr.heap.size wr w':=by rw [HLA.out];exact prog_stateOf hwj HGw.out.bk j
      obtain ⟨svzz,hsv⟩:∃ svzz,svzz=gp X.lives (j:Nat):=⟨_,rfl⟩
      rw [← hsv] at hst
      have HSt2:=Ib hst
      have HSv:=Ib hsv
      clear hst hsv hwj hkj hbj
      go_wp2_with (refine t7 rfl 54 (.tmp 10) rfl bx rfl 54 LA.toArray (0,0) _ HKj.out Tryz.underlying54 rfl HIz.out ?_)
      refine HSt2.out.mono ?_
      rintro e w4 ⟨rfl,hb4⟩
      have HB4:=Ib (HBj.out.trans (hb4.mono hzj))
      clear hb4
      by_cases h2:svzz=2
      ·have e2:=actU_y (HSv.out ▸ h2)
       subst h2
       go_wp2_with fail
       exact ⟨⟨j+1,by omega,by go_num,by rw [e2];go_num,HB4.out⟩,by simp [intOf];omega⟩
      ·have e2:=actU_n (fun h=>h2 (HSv.out.trans h))
       have d2:(svzz == 2)=false:=by simpa using h2
       go_wp2_with fail
       exact ⟨⟨j+1,by omega,by go_num,by rw [e2],HB4.out⟩,by simp [intOf];omega⟩
     ·have hge:¬ (12:Int)<12:=by omega
      have hon:((actU X.lives 12:Nat):Int)=(WL.length:Int):=by rw [HWl.out];rfl
      rw [hon]
      clear hwj hkj hbj hal hon
      go_wp2
      go_loopw [15] (fun i w5=>∃ m:Nat,m≤WL.length∧i=.int .i64 m∧Below wz.heap.size wz w5) (fun i _=>WL.length - (intOf i).toNat)
      case atStart=>exact ⟨0,by omega,rfl,HBj.out⟩
      case round=>
       obtain ⟨m,hm,rfl,hbm⟩:=hrel
       have HBm:=Ib hbm
       have hzm:=hbm.size
       rcases (show m<WL.length∨m=WL.length by omega) with hlm|rfl
       ·have hlm':(m:Int)<(WL.length:Int):=by omega
        have m0:(0:Int)≤(m:Int):=by omega
        obtain ⟨a',c',e',_,_,_,pt⟩:=HRz.out
        rw [Iq] at e'
        injection e' with e1 e2 e3
        obtain ⟨b3,o3,e4,hb3,q3⟩:=pt (by intro e;have h1:=congrArg List.length e;rw [Iq] at h1;simp at h1;rw [h1] at hlm;simp at hlm)
        subst e4
        subst e1
        obtain ⟨xv,hxv⟩:∃ x,x=WL.getD m 0:=⟨_,rfl⟩
        have cx:wz.cell? ⟨b3,o3+m,none⟩=some (.int .i64 xv):=by
         have h1:=q3 m 0 (by rw [Iq];exact hlm) (by omega)
         rw [Nat.mul_one,Nat.add_zero] at h1
         rw [h1,hxv]
         simp [List.getD,List.getElem?_map,Is hlm]
        have hxm:xv∈WL:=by rw [hxv,aK hlm];exact Iw _
        have hs2:=(HWm.out xv).1 hxm
        have hkm:=ai hbm HKz.out lbz
        have cxm:=ae hbm cx hb3
        have lbm:=lt_of_block hkm
        have lt3:b3<wr.heap.size:=by omega
        have hso:∀ w',Below wr.heap.size wr w'→Calls Tryz.prog 15 #[.agg LA.toArray,.int .i64 xv] w' fun e w''=>e=.returned (.int .i64 2)∧Below w'.heap.size w' w'':=fun w' hb'=>by
         have h1:=prog_stateOf (HWa.out.below (HBz.out.trans ((hbm.trans (hb'.mono hzm)).mono hzz))) HGw.out.bk xv
         rw [hs2] at h1
         rw [HLA.out];exact h1
        have HSo:=Ib hso
        have HKm:=Ib hkm
        have HCx:=Ib cxm
        clear hso hs2 hxm hxv cx q3 pt hkm e2 e3 hb3
        go_upto_region 18 with fail
        (refine Zr (fun w':World=>w'.heap[bx]?=some (.cells LA.toArray 54 (0,0))∧w'.cell? ⟨b3,o3+m,none⟩=some (.int .i64 xv)) (fun hHeld=>?_) (by (try dsimp only);(first|exact ⟨HKm.out,HCx.out⟩|exact hk6));refine Zw 0 ?_ (hy:=yieldsIf_load_mid (by rfl) 54 (.tmp 10) rfl bx 0 rfl LA _ (fun _ hw'=>nd hw'.1) Tryz.underlying54 rfl HIA.out);refine eP 1 ?_;refine Z1 5 (fun K hK=>?_);go_simp;(go_at_call 15;refine (HSo.out _ Zb).mono ?_;rintro e w6 ⟨rfl,hb6⟩;have hk6:w6.heap[bx]?=some (.cells LA.toArray 54 (0,0))∧w6.cell? ⟨b3,o3+m,none⟩=some (.int .i64 xv):=⟨ai hb6 HKm.out lbm,ae hb6 HCx.out lt3⟩;(try dsimp only));(try go_wp2_with fail);refine Zk hK (hS:=by (try dsimp only);(first|exact ⟨HKm.out,HCx.out⟩|exact hk6)) fun hHeld=>?_;clear hK K;refine Zt 6 ?_;refine Zd ?_)
        refine aW _ (fun w7 hw7=>?_)
        have hb7:Below wz.heap.size wz w7:=by rw [hw7];exact HBm.out.trans (Ig (Id (Ic _ _)) (hb6.mono (by simp)) |>.mono hzm)
        have HB7:=Ib hb7
        clear hw7 hb7
        go_wp2_with fail
        exact ⟨⟨m+1,by omega,by go_num,HB7.out⟩,by simp [intOf];omega⟩
       ·have hgm:¬ (WL.length:Int)<(WL.length:Int):=by omega
        go_wp2
        go_roundw
        case rel=>exact ⟨k+1,by omega,by go_num,HBr.out.trans ((HB2.out.trans ((HBz.out.trans (HBm.out.mono hzz)).mono hzr)).mono HBr.out.size)⟩
        case measure=>simp [intOf];omega
  ·have hge:¬ (P.steps.length:Int)<(P.steps.length:Int):=by omega
   go_wp2
   go_ret
   exact ⟨rfl,HW1.out.trans (HBr.out.mono HW1.out.size)⟩
end Go.Proofs.YtocbhafgjepnjaaGreat
