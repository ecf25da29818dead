/- Texts of the row's proof. Conditions: none. -/
import Derived.Test.YtneailjecbfljaaGreatDoorK47
import Derived.Test.YtneailjecbfljaaGreatDoorASm
namespace Go.Proofs.YtneailjecbfljaaGreatDoor
set_option maxRecDepth 100000
set_option maxHeartbeats 8000000
open Go.RowKit
theorem walk_TopSteps (v0 v1:Value) (W:World) (o0:Is_Setup W v0) (o1:Is_sl_Deed W v1) :Calls Tryz.prog 3 #[v0,v1] W fun e w'=>e=.returned (.bool true)∧Below W.heap.size W w':=by
 obtain ⟨s,rfl,hs⟩:=o0
 obtain ⟨L,hr,hd,_⟩:=o1
 obtain ⟨av,cv,rfl,_⟩:=aq hr
 have hcf:=Gp s
 have hat:=xR hcf L (most:=60) (by omega)
 have hpl:∀ w',Below W.heap.size W w'→Calls Tryz.prog 5 #[.agg (Su.cells s).toArray,.slice av L.length cv,.int .i64 ((60:Nat):Int)] w' (GJ w' (Gq s) L 60):=fun w' hb=>GW s hs L hd _ (au hr hb) 60 (by omega)
 obtain ⟨c,hc⟩:∃ c,c=Gq s:=⟨_,rfl⟩
 rw [← hc] at hpl hcf hat
 obtain ⟨SA,hSA⟩:∃ SA,SA=(Su.cells s).toArray:=⟨_,rfl⟩
 rw [← hSA] at hpl ⊢
 have HSI:=Hp (show (Tryz.prog.info? 24).map (·.size)=some SA.size by rw [hSA];show _=some 16;kernel_rfl)
 have HPl:=Hp hpl
 have HF:=Hp hcf
 have HAt:=Hp hat
 have HK:=Hp (show (W.alloc (.cells SA 24 (0,0))).heap[W.heap.size]?=some (.cells SA 24 (0,0)) from az _ rfl)
 have HB0:=Hp (show Below W.heap.size W (W.alloc (.cells SA 24 (0,0))) from (Hq _ _).alloc (Hz _) _)
 clear hs hd hr hcf hc hSA hat hpl
 go_enter Tryz.func3,Tryz.ntmps3
 go_wp2_with (first|(refine Iu rfl 24 (.tmp 2) rfl W.heap.size rfl 24 SA (0,0) _ HK.out Tryz.underlying24 rfl HSI.out ?_)|(go_at_call 5;refine (HPl.out _ HB0.out).mono ?_;rintro e w1 ⟨p,VL,MS,vs,vg,rfl,hpg,hb1⟩;have hw1:=HB0.out.trans (hb1.mono HB0.out.size);have HW1:=Hp hw1;have HPg:=Hp hpg;clear hb1 hpg hw1))
 obtain ⟨P,hP⟩:∃ P,P=iH (dx c) L 60:=⟨_,rfl⟩
 have hrun:=run_play HF.out L (most:=60) (by omega)
 rw [← hP] at HPg HAt hrun
 obtain ⟨n,hn⟩:∃ n,n=P.steps.length:=⟨_,rfl⟩
 have hn4:4≤n∧n≤64:=by have h1:=HAt.out.len;simp at h1;omega
 obtain ⟨EV,hEV⟩:∃ EV,EV=P.steps.map Stp.ev:=⟨_,rfl⟩
 have hel:EV.length=n:=by rw [hEV,I5,hn]
 have heg:∀ e∈EV,EvGood e:=fun e he=>by
  rw [hEV] at he
  obtain ⟨s,hs,rfl⟩:=Io.1 he
  exact (HAt.out.ok.st s hs).2.2.1
 have hne:EV≠[]:=fun e=>by rw [e] at hel;simp at hel;omega
 have hget:∀ k,k<n→EV.getD k Ev.zero=(P.steps.getD k Stp.zero).ev:=fun k hk=>by
  rw [aO (by omega),aO (by omega)];subst hEV;rw [List.getElem_map]
 obtain ⟨as_,cs_,hx16,hse⟩:=HPg.out.se
 rw [← hn] at hx16 hse
 have HX16:=Hp hx16
 have HSe:=Hp hse
 have HLp:=Hp (lt_of_block HPg.out.bk)
 have HEl:=Hp hel
 have HEg:=Hp heg
 have HEn:=Hp hne
 have HGt:=Hp hget
 unfold RunP at hrun
 rw [← hEV] at hrun
 have HRun:=Hp hrun
 have HNn:=Hp hn
 obtain ⟨i0,hi,hi0,hi1,hi2⟩:=info_parts info_Evs
 clear hP hn hEV hel heg hne hget hx16 hse hrun
 go_wp2
 go_loopw [7,8] (fun v i wr=>∃ k:Nat,k≤n∧i=.int .i64 k∧wr.ownsRow w1.heap.size 60 8 v k ((EV.take k).map Ev.cells).flatten∧Below w1.heap.size w1 wr) (fun _ i _=>n - (intOf i).toNat)
 case atStart=>exact ⟨0,I0 _,rfl,Iq _ _ _ _,Hq _ _⟩
 case round=>
  obtain ⟨k,hk,rfl,hown,hbr⟩:=hrel
  have HBr:=Hp hbr
  have x16:=ah hbr HX16.out HLp.out
  have hzr:=hbr.size
  obtain ⟨av,cv,ev,_⟩:=aC hown
  subst ev
  have HOw:=Hp hown
  clear hbr
  rcases (show k<n∨k=n by omega) with hlt|rfl
  ·have hlt':(k:Int)<(n:Int):=by omega
   have k0:(0:Int)≤(k:Int):=by omega
   obtain ⟨bs,os,rfl,hbs,hce,_⟩:=HSe.out k hlt
   rw [← HGt.out k hlt] at hce
   have htk:((EV.take (k+1)).map Ev.cells).flatten=((EV.take k).map Ev.cells).flatten++Ev.cells (EV.getD k Ev.zero):=by
    have hlE:k<EV.length:=by rw [HEl.out];exact hlt
    rw [I6 hlE,Im,Ih,aO hlE];simp
   obtain ⟨x,hx⟩:∃ x,x=EV.getD k Ev.zero:=⟨_,rfl⟩
   rw [← hx] at hce htk
   obtain ⟨x0,x1,x2,x3,x4,x5,x6,x7⟩:=x
   have a0:=ah HBr.out (hce 0 _ rfl) hbs
   have a1:=ah HBr.out (hce 1 _ rfl) hbs
   have a2:=ah HBr.out (hce 2 _ rfl) hbs
   have a3:=ah HBr.out (hce 3 _ rfl) hbs
   have a4:=ah HBr.out (hce 4 _ rfl) hbs
   have a5:=ah HBr.out (hce 5 _ rfl) hbs
   have a6:=ah HBr.out (hce 6 _ rfl) hbs
   have a7:=ah HBr.out (hce 7 _ rfl) hbs
   simp only [Nat.add_zero] at a0 a1 a2 a3 a4 a5 a6 a7
   have HTk:=Hp htk
   clear hx hce htk hown hbs
   go_wp2_with (at_builtin;refine wpList_append_own _ rfl _ _ 29 rfl w1.heap.size 60 i0 (.agg #[.int .i64 0,.int .i64 0,.int .i64 0,.int .i64 0,.bool false,.int .i64 0,.int .i64 0,.int .i64 0]) 8 64 Tryz.underlying29 hi hi0 hi1 hi2 rfl (by decide) _ k _ rfl (HOw.out.alloc _) ⟨wr.heap.size,0,none⟩ 1 1 (Ev.cells ⟨x0,x1,x2,x3,x4,x5,x6,x7⟩) rfl rfl (km (Ev.cells ⟨x0,x1,x2,x3,x4,x5,x6,x7⟩) 60) ?c1 ?c2 ?c3 ?c4 ?_)
   case c1=>intro u hu;simp [Ev.cells] at hu;rcases hu with rfl|rfl|rfl|rfl|rfl|rfl|rfl|rfl<;>rfl
   case c2=>unfold maxLen;omega
   case c3=>omega
   case c4=>simp;omega
   intro v' w5 hown' hgrow _
   have hb5:=sc hzr HOw.out hgrow
   have H5:=Hp (And.intro hown' (HBr.out.trans hb5))
   clear hown' hgrow hb5 x16 a0 a1 a2 a3 a4 a5 a6 a7
   go_wp2
   go_roundw
   case rel=>exact ⟨k+1,by omega,by go_num,by rw [HTk.out,List.map_take];exact H5.out.1,H5.out.2⟩
   case measure=>simp [intOf];omega
  ·have hge:¬ (k:Int)<(k:Int):=by omega
   have htk:EV.take k=EV:=by rw [Ia (by rw [HEl.out];exact Hz _)]
   rw [htk] at hown
   have hrow:=(aD hown (by rw [I5,HEl.out]) (by intro c hc;obtain ⟨x,_,rfl⟩:=Io.1 hc;rfl)).1
   obtain ⟨n,rfl⟩:∃ n,n=k:=⟨_,rfl⟩
   have HRw:=Hp hrow
   have hpg:=HPg.out.below HBr.out
   have HPr:=Hp hpg
   have HCf:=Hp (range_cf hpg.bk)
   obtain ⟨CLzz,hCL⟩:∃ CLzz,CLzz=Cf.cells c:=⟨_,rfl⟩
   have HCI:=Hp (show (Tryz.prog.info? 35).map (·.size)=some CLzz.length by rw [hCL];show _=some 16;kernel_rfl)
   rw [← hCL] at HCf
   have HWr:=Hp (HW1.out.trans (HBr.out.mono HW1.out.size))
   have HRu:=Hp (fun (L':List Ev) (h1:∀ e∈L',EvGood e) (h2:L'.length≤4000) (a:Option Addr) (cp:Nat) (w:World) (r:aI w 8 (.slice a L'.length cp) (L'.map Ev.cells))=>(show Calls Tryz.prog 6 #[.agg CLzz.toArray,.slice a L'.length cp] w (RunPost w c L') by rw [hCL];exact prog_Run HF.out h1 h2 r))
   have HCL0:=Hp hCL
   clear hown htk hrow hpg HOw hzr hCL
   have x33:wr.cell? ⟨p,33,none⟩=some (.int .i64 P.last.now):=by rw [ae HPr.out.bk 33];rfl
   have x40:wr.cell? ⟨p,40,none⟩=some (.int .i64 P.last.tok):=by rw [ae HPr.out.bk 40];rfl
   obtain ⟨af,cf_,ef,_⟩:=aq HPr.out.wl.fl.1
   have x35:wr.cell? ⟨p,35,none⟩=some (.slice af P.last.flows.length cf_):=by rw [← ef,ae HPr.out.bk 35];rfl
   have hfR:=HPr.out.wl.fl.1
   rw [ef] at hfR
   have HFR:=Hp hfR
   have X:=Hp (And.intro x33 (And.intro x40 x35))
   have hlp:=lt_of_block HPr.out.bk
   have HEl4:=Hp (show EV.length≤4000 by rw [HEl.out];omega)
   clear x33 x40 x35 ef hfR
   go_wp2_with (refine wpList_load_mid rfl 35 (.tmp 43) rfl p 0 rfl CLzz _ HCf.out Tryz.underlying35 rfl HCI.out ?_)
   rw [← HEl.out] at HRw ⊢
   refine (HRu.out EV HEg.out HEl4.out _ _ _ HRw.out).mono ?_
   rintro e w3 ⟨V3,a3,c3,rfl,_,hk3,ho3,hb3⟩
   have hk3:=hk3 HEn.out
   rw [HRun.out] at hk3 ho3
   rw [HRun.out]
   rw [HEl.out]
   obtain ⟨AYzz,hAY⟩:∃ AYzz,AYzz=(ds P.last V3).toArray:=⟨_,rfl⟩
   rw [← hAY]
   have HYI:=Hp (show (Tryz.prog.info? 55).map (·.size)=some AYzz.size by rw [hAY];show _=some 26;kernel_rfl)
   have HYZ:=Hp (show AYzz.size=26 by rw [hAY];rfl)
   have HY1:=Hp (show AYzz.all (·.oneCell')=true by rw [hAY];exact kl hk3)
   have HAY:=Hp hAY
   have H3:=Hp (And.intro hk3 (And.intro ho3 hb3))
   clear hAY hk3 ho3 hb3
   go_upto_region 8 with (refine Iv rfl 55 (.tmp 9) (.tmp 47) rfl w3.heap.size AYzz rfl rfl 55 _ (az _ rfl) HYI.out (by rw [HYZ.out];rfl) HY1.out ?_;refine aY _ (fun w4 hw4=>?_);have k4:w4.heap[w3.heap.size]?=some (.cells AYzz 55 (0,0)):=(by rw [hw4];exact aZ (az _ rfl));have b4:Below w3.heap.size w3 w4:=(by rw [hw4];exact aW ((Hq _ _).alloc (Hz _) _) (Hz _));have K4:=Hp k4;have B4:=Hp b4;clear hw4 k4 b4)
   obtain ⟨q,hq⟩:∃ q,q=w3.heap.size:=⟨_,rfl⟩
   have HR4:=Hp (H3.out.2.2.trans (B4.out.mono H3.out.2.2.size))
   have HO4:=Hp (H3.out.2.1.keep B4.out.size (fun b hb _=>B4.out.block b hb))
   have HV4:=Hp (au H3.out.1.fl.1 B4.out)
   rw [← hq] at K4 ⊢
   have l1:=lt_of_block HPr.out.bk
   have x33:=ah HR4.out X.out.1 l1
   have x40:=ah HR4.out X.out.2.1 l1
   have x35:=ah HR4.out X.out.2.2 l1
   obtain ⟨a5,c5,e5,_⟩:=aq HV4.out
   have y16:w4.cell? ⟨q,16,none⟩=some (.int .i64 P.last.now):=by rw [ae K4.out 16,HAY.out];rfl
   have y23:w4.cell? ⟨q,23,none⟩=some (.int .i64 P.last.tok):=by rw [ae K4.out 23,HAY.out];rfl
   have y18:w4.cell? ⟨q,18,none⟩=some (.slice a5 P.last.flows.length c5):=by rw [← e5,ae K4.out 18,HAY.out];rfl
   rw [e5] at HV4
   have lkzz:=lt_of_block K4.out
   obtain ⟨nw,hnw⟩:∃ x,x=P.last.now:=⟨_,rfl⟩
   obtain ⟨tk,htk⟩:∃ x,x=P.last.tok:=⟨_,rfl⟩
   obtain ⟨nf,hnf⟩:∃ x,x=P.last.flows.length:=⟨_,rfl⟩
   rw [← hnw] at x33 y16
   rw [← htk] at x40 y23
   rw [← hnf] at x35 y18
   have HNf:=Hp hnf
   have hnf40:nf≤40:=by rw [hnf];exact HAt.out.ok.wd.gw.len
   have x16:=ah (HBr.out.trans (HR4.out.mono HBr.out.size)) HX16.out HLp.out
   have HB4:=Hp (HBr.out.trans (HR4.out.mono HBr.out.size))
   clear e5 hq hnw htk hnf
   go_quiet (fail)
   go_wp2
   go_loopw [12] (fun i wz=>∃ k:Nat,k≤n∧i=.int .i64 k∧∃ m,wz=w4.drewN m) (fun i _=>n - (intOf i).toNat)
   case atStart=>exact ⟨0,I0 _,rfl,by first|exact ⟨_,rfl⟩|exact ⟨_,World.drewN_drewN _ _ _⟩⟩
   case round=>
    obtain ⟨k,hk,rfl,m,rfl⟩:=hrel
    rcases (show k<n∨k=n by omega) with hlt|rfl
    ·have hlt':(k:Int)<(n:Int):=by omega
     have k0:(0:Int)≤(k:Int):=by omega
     obtain ⟨bs,os,rfl,hbs,_,ao,co,c60,hro⟩:=HSe.out k hlt
     have c60:=ah HB4.out c60 hbs
     have hro:=au hro HB4.out
     obtain ⟨VV,hvl,hvr,hvo⟩:=HO4.out
     have hkP:k<P.steps.length:=by rw [← HNn.out];exact hlt
     have hgo:(P.steps.map Stp.out).getD k []=(P.steps.getD k Stp.zero).out:=by rw [aO (by simpa using hkP),aO hkP,List.getElem_map]
     have hvk:=(hvo k (by rw [I5];exact hkP)).1
     rw [hgo] at hvk
     obtain ⟨O,hO⟩:∃ O,O=(P.steps.getD k Stp.zero).out:=⟨_,rfl⟩
     rw [← hO] at hvk hro c60
     obtain ⟨av,cv,ev,_⟩:=aq hvk
     rw [ev] at hvk
     obtain ⟨_,_,e1,_,_,_,pt⟩:=aK undef hvr.1
     injection e1 with e1 _ _
     have hvn:VV.length=n:=by rw [hvl,I5,← HNn.out]
     obtain ⟨bo,oo,e2,_,qvzz⟩:=pt (by intro e;rw [e] at hvn;simp at hvn;omega)
     rw [← e1] at e2
     subst e2
     have v0:=qvzz k 0 (by omega) (by omega)
     rw [ev] at v0
     simp only [I1,Nat.mul_one,Nat.add_zero] at v0
     have HV1:=Hp hvk
     have HV2:=Hp hro
     clear hvk hro hvo hvr hvl hgo hO ev e1 pt qvzz hvn
     go_upto_region 13 with fail
     have hsm:=prog_same (w:=w4.drewN m) (au HV1.out (aJ (Hq _ _))) (au HV2.out (aJ (Hq _ _)))
     have HSm:=Hp (fun x=>(hsm (w4.drewN (m+x)) ⟨_,(World.drewN_drewN _ _ _).symm⟩).mono (R':=fun e w''=>e=Ending.returned (.bool true)∧∃ n,w''=w4.drewN (m+n)) (by rintro e w9 ⟨rfl,k9zz,rfl⟩;exact ⟨rfl,k9zz,World.drewN_drewN _ _ _⟩))
     clear hsm
     go_quiet (first|(go_at_call 7;exact HSm.out _))
     go_wp2
     go_roundw
     case rel=>exact ⟨k+1,by omega,by go_num,by first|exact ⟨_,rfl⟩|exact ⟨_,World.drewN_drewN _ _ _⟩⟩
     case measure=>simp [intOf];omega
    ·have hge:¬ (k:Int)<(k:Int):=by omega
     have HF2:=Hp (au HFR.out HR4.out)
     go_wp2
     go_loopw [13] (fun i wz=>∃ k:Nat,k≤nf∧i=.int .i64 k∧∃ m,wz=w4.drewN m) (fun i _=>nf - (intOf i).toNat)
     case atStart=>exact ⟨0,I0 _,rfl,by first|exact ⟨_,rfl⟩|exact ⟨_,World.drewN_drewN _ _ _⟩⟩
     case round=>
      obtain ⟨j,hj,rfl,m2,rfl⟩:=hrel
      rcases (show j<nf∨j=nf by omega) with hlj|rfl
      ·have hlj':(j:Int)<(nf:Int):=by omega
       have j0:(0:Int)≤(j:Int):=by omega
       have hljf:j<P.last.flows.length:=by rw [← HNf.out];exact hlj
       obtain ⟨_,_,e1,_,_,_,p1⟩:=aK Fl.zero HV4.out
       obtain ⟨_,_,e2,_,_,_,p2⟩:=aK Fl.zero HF2.out
       injection e1 with e1 _ _
       injection e2 with e2 _ _
       obtain ⟨b1,o1,e3,_,q1⟩:=p1 (by intro e;rw [e] at hljf;simp at hljf)
       obtain ⟨b2,o2,e4,_,q2⟩:=p2 (by intro e;rw [e] at hljf;simp at hljf)
       rw [← e1] at e3
       rw [← e2] at e4
       subst e3 e4
       have a0:=q1 j 0 hljf (by omega)
       have a1:=q1 j 1 hljf (by omega)
       have a2:=q1 j 2 hljf (by omega)
       have a3:=q1 j 3 hljf (by omega)
       have a4:=q1 j 4 hljf (by omega)
       have a5:=q1 j 5 hljf (by omega)
       have a6:=q1 j 6 hljf (by omega)
       have b0:=q2 j 0 hljf (by omega)
       have b1:=q2 j 1 hljf (by omega)
       have b2:=q2 j 2 hljf (by omega)
       have b3:=q2 j 3 hljf (by omega)
       have b4:=q2 j 4 hljf (by omega)
       have b5:=q2 j 5 hljf (by omega)
       have b6:=q2 j 6 hljf (by omega)
       obtain ⟨x,hx⟩:∃ x,x=P.last.flows.getD j Fl.zero:=⟨_,rfl⟩
       rw [← hx] at a0 a1 a2 a3 a4 a5 a6 b0 b1 b2 b3 b4 b5 b6
       obtain ⟨x0,x1,x2,x3,x4,x5,x6⟩:=x
       simp only [Fl.cells,I1,I2,Nat.add_zero] at a0 a1 a2 a3 a4 a5 a6 b0 b1 b2 b3 b4 b5 b6
       clear hx q1 q2 p1 p2 e1 e2
       go_upto_region 18 with fail
       go_quiet (fail)
       go_wp2
       go_roundw
       case rel=>exact ⟨j+1,by omega,by go_num,by first|exact ⟨_,rfl⟩|exact ⟨_,World.drewN_drewN _ _ _⟩⟩
       case measure=>simp [intOf];omega
      ·have hgj:¬ (j:Int)<(j:Int):=by omega
       go_wp2
       go_ret
       exact ⟨rfl,HWr.out.trans (aJ (HR4.out.mono HWr.out.size))⟩
end Go.Proofs.YtneailjecbfljaaGreatDoor
