/- Texts of the row's proof. Conditions: none. -/
import Derived.Test.YtneailjecbfljaaGreatDoorK07
import Derived.Test.YtneailjecbfljaaGreatDoorK47
import Derived.Test.YtneailjecbfljaaGreatDoorAOpen
import Derived.Test.YtneailjecbfljaaGreatDoorASm
namespace Go.Proofs.YtneailjecbfljaaGreatDoor
set_option maxRecDepth 100000
set_option maxHeartbeats 8000000
open Go.RowKit
theorem walk_TopAgain (v0 v1 v2:Value) (W:World) (o0:Is_Setup W v0) (o1:Is_sl_Deed W v1) (o2:Is_int W v2):Calls Tryz.prog 4 #[v0,v1,v2] W fun e w'=>e=.returned (.bool true)∧Below W.heap.size W w':=by
 obtain ⟨s,rfl,hs⟩:=o0
 obtain ⟨L,hr,hd,_⟩:=o1
 obtain ⟨av,cv,rfl,_⟩:=aq hr
 obtain ⟨nb,rfl,hnb⟩:=o2
 have I0zz:=Hp hnb
 clear hnb
 have hcf:=Gp s
 have hat:=xR hcf L (most:=60) (by omega)
 have hpl:∀ w',Below W.heap.size W w'→Calls Tryz.prog 5 #[.agg (Su.cells s).toArray,.slice av L.length cv,.int .i64 ((60:Nat):Int)] w' (GJ w' (Gq s) L 60):=fun w' hb=>GW s hs L hd _ (au hr hb) 60 (by omega)
 obtain ⟨c,hc⟩:∃ c,c=Gq s:=⟨_,rfl⟩
 rw [← hc] at hpl hcf hat
 obtain ⟨SA,hSA⟩:∃ SA,SA=(Su.cells s).toArray:=⟨_,rfl⟩
 rw [← hSA] at hpl ⊢
 have HSI:=Hp (show (Tryz.prog.info? 24).map (·.size)=some SA.size by rw [hSA];show _=some 16;kernel_rfl)
 have HPl:=Hp hpl
 have HF:=Hp hcf
 have HAt:=Hp hat
 have HK:=Hp (show (W.alloc (.cells SA 24 (0,0))).heap[W.heap.size]?=some (.cells SA 24 (0,0)) from az _ rfl)
 have HB0:=Hp (show Below W.heap.size W (W.alloc (.cells SA 24 (0,0))) from (Hq _ _).alloc (Hz _) _)
 clear hs hd hr hcf hc hSA hat hpl
 go_enter Tryz.func4,Tryz.ntmps4
 go_wp2_with (first|(refine Iu rfl 24 (.tmp 3) rfl W.heap.size rfl 24 SA (0,0) _ HK.out Tryz.underlying24 rfl HSI.out ?_)|(go_at_call 5;refine (HPl.out _ HB0.out).mono ?_;rintro e w1 ⟨p,VL,MS,vs,vg,rfl,hpg,hb1⟩;have hw1:=HB0.out.trans (hb1.mono HB0.out.size);have HW1:=Hp hw1;have HPg:=Hp hpg;clear hb1 hpg hw1))
 obtain ⟨P,hP⟩:∃ P,P=iH (dx c) L 60:=⟨_,rfl⟩
 have hrun:=run_play HF.out L (most:=60) (by omega)
 rw [← hP] at HPg HAt hrun
 obtain ⟨n,hn⟩:∃ n,n=P.steps.length:=⟨_,rfl⟩
 have hn4:4≤n∧n≤64:=by have h1:=HAt.out.len;simp at h1;omega
 obtain ⟨EV,hEV⟩:∃ EV,EV=P.steps.map Stp.ev:=⟨_,rfl⟩
 have hel:EV.length=n:=by rw [hEV,I5,hn]
 have heg:∀ e∈EV,EvGood e:=fun e he=>by
  rw [hEV] at he
  obtain ⟨s,hs,rfl⟩:=Io.1 he
  exact (HAt.out.ok.st s hs).2.2.1
 have hne:EV≠[]:=fun e=>by rw [e] at hel;simp at hel;omega
 have hget:∀ k,k<n→EV.getD k Ev.zero=(P.steps.getD k Stp.zero).ev:=fun k hk=>by
  rw [aO (by omega),aO (by omega)];subst hEV;rw [List.getElem_map]
 obtain ⟨as_,cs_,hx16,hse⟩:=HPg.out.se
 rw [← hn] at hx16 hse
 have HX16:=Hp hx16
 have HSe:=Hp hse
 have HLp:=Hp (lt_of_block HPg.out.bk)
 have HEl:=Hp hel
 have HEg:=Hp heg
 have HEn:=Hp hne
 have HGt:=Hp hget
 unfold RunP at hrun
 rw [← hEV] at hrun
 have HRun:=Hp hrun
 have HNn:=Hp hn
 obtain ⟨i0,hi,hi0,hi1,hi2⟩:=info_parts info_Evs
 clear hP hn hEV hel heg hne hget hx16 hse hrun
 go_wp2
 go_loopw [9,10] (fun v i wr=>∃ k:Nat,k≤n∧i=.int .i64 k∧wr.ownsRow w1.heap.size 60 8 v k ((EV.take k).map Ev.cells).flatten∧Below w1.heap.size w1 wr) (fun _ i _=>n - (intOf i).toNat)
 case atStart=>exact ⟨0,I0 _,rfl,Iq _ _ _ _,Hq _ _⟩
 case round=>
  obtain ⟨k,hk,rfl,hown,hbr⟩:=hrel
  have HBr:=Hp hbr
  have x16:=ah hbr HX16.out HLp.out
  have hzr:=hbr.size
  obtain ⟨av,cv,ev,_⟩:=aC hown
  subst ev
  have HOw:=Hp hown
  clear hbr
  rcases (show k<n∨k=n by omega) with hlt|rfl
  ·have hlt':(k:Int)<(n:Int):=by omega
   have k0:(0:Int)≤(k:Int):=by omega
   obtain ⟨bs,os,rfl,hbs,hce,_⟩:=HSe.out k hlt
   rw [← HGt.out k hlt] at hce
   have htk:((EV.take (k+1)).map Ev.cells).flatten=((EV.take k).map Ev.cells).flatten++Ev.cells (EV.getD k Ev.zero):=by
    have hlE:k<EV.length:=by rw [HEl.out];exact hlt
    rw [I6 hlE,Im,Ih,aO hlE];simp
   obtain ⟨x,hx⟩:∃ x,x=EV.getD k Ev.zero:=⟨_,rfl⟩
   rw [← hx] at hce htk
   obtain ⟨x0,x1,x2,x3,x4,x5,x6,x7⟩:=x
   have a0:=ah HBr.out (hce 0 _ rfl) hbs
   have a1:=ah HBr.out (hce 1 _ rfl) hbs
   have a2:=ah HBr.out (hce 2 _ rfl) hbs
   have a3:=ah HBr.out (hce 3 _ rfl) hbs
   have a4:=ah HBr.out (hce 4 _ rfl) hbs
   have a5:=ah HBr.out (hce 5 _ rfl) hbs
   have a6:=ah HBr.out (hce 6 _ rfl) hbs
   have a7:=ah HBr.out (hce 7 _ rfl) hbs
   simp only [Nat.add_zero] at a0 a1 a2 a3 a4 a5 a6 a7
   have HTk:=Hp htk
   clear hx hce htk hown hbs
   go_wp2_with (at_builtin;refine wpList_append_own _ rfl _ _ 29 rfl w1.heap.size 60 i0 (.agg #[.int .i64 0,.int .i64 0,.int .i64 0,.int .i64 0,.bool false,.int .i64 0,.int .i64 0,.int .i64 0]) 8 64 Tryz.underlying29 hi hi0 hi1 hi2 rfl (by decide) _ k _ rfl (HOw.out.alloc _) ⟨wr.heap.size,0,none⟩ 1 1 (Ev.cells ⟨x0,x1,x2,x3,x4,x5,x6,x7⟩) rfl rfl (km (Ev.cells ⟨x0,x1,x2,x3,x4,x5,x6,x7⟩) 60) ?c1 ?c2 ?c3 ?c4 ?_)
   case c1=>intro u hu;simp [Ev.cells] at hu;rcases hu with rfl|rfl|rfl|rfl|rfl|rfl|rfl|rfl<;>rfl
   case c2=>unfold maxLen;omega
   case c3=>omega
   case c4=>simp;omega
   intro v' w5 hown' hgrow _
   have hb5:=sc hzr HOw.out hgrow
   have H5:=Hp (And.intro hown' (HBr.out.trans hb5))
   clear hown' hgrow hb5 x16 a0 a1 a2 a3 a4 a5 a6 a7
   go_wp2
   go_roundw
   case rel=>exact ⟨k+1,by omega,by go_num,by rw [HTk.out,List.map_take];exact H5.out.1,H5.out.2⟩
   case measure=>simp [intOf];omega
  ·have hge:¬ (k:Int)<(k:Int):=by omega
   have htk:EV.take k=EV:=by rw [Ia (by rw [HEl.out];exact Hz _)]
   rw [htk] at hown
   have hrow:=(aD hown (by rw [I5,HEl.out]) (by intro c hc;obtain ⟨x,_,rfl⟩:=Io.1 hc;rfl)).1
   obtain ⟨n,rfl⟩:∃ n,n=k:=⟨_,rfl⟩
   have HRw:=Hp hrow
   have hpg:=HPg.out.below HBr.out
   have HPr:=Hp hpg
   have HCf:=Hp (range_cf hpg.bk)
   obtain ⟨CLzz,hCL⟩:∃ CLzz,CLzz=Cf.cells c:=⟨_,rfl⟩
   have HCI:=Hp (show (Tryz.prog.info? 35).map (·.size)=some CLzz.length by rw [hCL];show _=some 16;kernel_rfl)
   rw [← hCL] at HCf
   have HWr:=Hp (HW1.out.trans (HBr.out.mono HW1.out.size))
   have HRu:=Hp (fun (L':List Ev) (h1:∀ e∈L',EvGood e) (h2:L'.length≤4000) (a:Option Addr) (cp:Nat) (w:World) (r:aI w 8 (.slice a L'.length cp) (L'.map Ev.cells))=>(show Calls Tryz.prog 6 #[.agg CLzz.toArray,.slice a L'.length cp] w (RunPost w c L') by rw [hCL];exact prog_Run HF.out h1 h2 r))
   have HCL0:=Hp hCL
   clear hown htk hrow hpg HOw hzr hCL
   have HEl4:=Hp (show EV.length≤4000 by rw [HEl.out];omega)
   have hlp:=lt_of_block HPr.out.bk
   have kw:IntKind.i64.wrap ((n:Int)+1)=(n:Int)+1:=Ir _ (by omega)
   have hpk:=cU nb (m:=(n:Int)+1) (by omega)
   obtain ⟨kI,hkI⟩:∃ x,x=pk nb ((n:Int)+1):=⟨_,rfl⟩
   have HPi:=Hp (fun w0=>bL nb ((n:Int)+1) w0 I0zz.out.1 I0zz.out.2 (by omega) (by omega))
   rw [← hkI] at HPi hpk
   obtain ⟨k,rfl⟩:=Id hpk.1
   have hkn:k≤n:=by omega
   clear hkI hpk
   go_wp2_with fail
   refine (HPi.out _).mono ?_
   rintro e w_ ⟨rfl,hE⟩
   subst w_
   go_wp2_with (refine wpList_load_mid rfl 35 (.tmp 53) rfl p 0 rfl CLzz _ HCf.out Tryz.underlying35 rfl HCI.out ?_)
   have HRk:=Hp (show aI wr 8 (.slice av EV.length cv) (EV.map Ev.cells) by rw [HEl.out];exact HRw.out)
   rw [← HEl.out]
   refine (HRu.out EV HEg.out HEl4.out _ _ _ HRk.out).mono ?_
   rintro e w3 ⟨V3,a3,c3,rfl,h31,_,ho3,hb3⟩
   rw [HEl.out]
   obtain ⟨AYzz,hAY⟩:∃ AYzz,AYzz=(ds (runW (dx c) EV).1 V3).toArray:=⟨_,rfl⟩
   rw [← hAY] at h31 ⊢
   have HYI:=Hp (show (Tryz.prog.info? 55).map (·.size)=some AYzz.size by rw [hAY];show _=some 26;kernel_rfl)
   have HYZ:=Hp (show AYzz.size=26 by rw [hAY];rfl)
   have HY1:=Hp h31
   have H3:=Hp (And.intro ho3 hb3)
   clear hAY h31 ho3 hb3
   go_upto_region 9 with (refine Iv rfl 55 (.tmp 12) (.tmp 57) rfl w3.heap.size AYzz rfl rfl 55 _ (az _ rfl) HYI.out (by rw [HYZ.out];rfl) HY1.out ?_;refine aY _ (fun w4 hw4=>?_);have b4:Below w3.heap.size w3 w4:=(by rw [hw4];exact aW ((Hq _ _).alloc (Hz _) _) (Hz _));have B4:=Hp b4;clear hw4 b4)
   have hR4:=H3.out.2.trans (B4.out.mono H3.out.2.size)
   have HR4:=Hp hR4
   have HO4:=Hp (H3.out.1.keep B4.out.size (fun b hb _=>B4.out.block b hb))
   have HPg4:=Hp (HPr.out.below hR4)
   have hbE:∃ be oezz,av=some ⟨be,oezz,none⟩:=by
    obtain ⟨_,_,e1,_,_,_,pt⟩:=aK Ev.zero HRk.out
    injection e1 with e1 _ _
    obtain ⟨b,o,e2,_⟩:=pt HEn.out
    exact ⟨b,o,e1.trans e2⟩
   obtain ⟨be,oezz,rfl⟩:=hbE
   have hlk:(EV.take k).length=k:=by rw [Ie,HEl.out];omega
   have hcap:n≤cv∧cv≤maxLen:=by
    obtain ⟨_,_,e1,g1,g2,_⟩:=HRw.out
    simp only [Value.slice.injEq,I5] at e1 g1
    obtain ⟨rfl,_,rfl⟩:=e1
    rw [HEl.out] at g1
    exact ⟨g1,g2⟩
   have hrt:aI w4 8 (.slice (some ⟨be,oezz,none⟩) (EV.take k).length k) ((EV.take k).map Ev.cells):=by
    obtain ⟨_,_,e1,_,_,_,pt⟩:=aK Ev.zero (au HRk.out hR4)
    injection e1 with e1 _ _
    obtain ⟨b,o,e2,hb,q⟩:=pt HEn.out
    rw [← e1] at e2
    injection e2 with e2
    injection e2 with e2 e3
    subst e2 e3
    refine ⟨some ⟨be,oezz,none⟩,k,by rw [I5],by rw [I5,hlk];exact Hz _,by omega,(fun h=>by cases h),fun _=>⟨be,oezz,rfl,hb,fun i j hi hj=>?_⟩⟩
    rw [I5,hlk] at hi
    rw [q i j (by rw [HEl.out];omega) hj,kv Ev.cells (by rw [hlk];exact hi) Ev.zero]
    simp only [List.getD]
    rw [List.getElem?_take_of_lt hi]
   obtain ⟨RK,hRK⟩:∃ RK,RK=runW (dx c) (EV.take k):=⟨_,rfl⟩
   have hru:∀ w',Below w4.heap.size w4 w'→Calls Tryz.prog 6 #[.agg CLzz.toArray,.slice (some ⟨be,oezz,none⟩) k k] w' (fun e w''=>∃ V a cp,e=.returned (.tuple #[.agg (ds RK.1 V).toArray,.slice a k cp,.int .i64 0])∧(ds RK.1 V).toArray.all (·.oneCell')=true∧OutsN w'.heap.size w'' (.slice a k cp) RK.2∧Below w'.heap.size w' w''):=fun w' hb'=>by
    have h1:=HRu.out (EV.take k) (fun e he=>HEg.out e (List.mem_of_mem_take he)) (by rw [hlk];omega) _ _ _ (au hrt hb')
    rw [hlk] at h1
    refine h1.mono ?_
    rintro e w5 ⟨V5,a5,c5,rfl,g1,_,g2,g3⟩
    rw [hlk,← hRK] at *
    exact ⟨V5,a5,c5,rfl,g1,g2,g3⟩
   have HRu2:=Hp hru
   have HRK:=Hp hRK
   have HC4:=Hp (range_cf HPg4.out.bk)
   have hl4:=lt_of_block HPg4.out.bk
   have kk0:(0:Int)≤(k:Int):=by omega
   have kk1:(k:Int)≤(cv:Int):=by omega
   clear hrt hru hRK hR4 hcap
   rw [← HCL0.out] at HC4
   refine join5 (P:=?jP1) (F:=fun (nb:Nat) (V5:Vs) (a5:Option Addr) (c5:Nat) wz=>Below w4.heap.size w4 wz∧OutsN 0 wz (.slice a5 k c5) RK.2) (fun key=>?jm1) ?jr1
   case jm1=>
    (refine Zr (fun w':World=>Below w4.heap.size w4 w') (fun hHeld=>?_) (by (try dsimp only);(first|exact Hq _ _|exact (Hq _ _).drew|exact hb45|exact hb45.alloc hb45.size _|exact aW (hb45.alloc hb45.size _) hb45.size|exact aW hb45 (Hz _)|exact Zb));refine df 0 ?_;refine Zt 2 ?_;refine Zw 3 ?_ (hy:=yieldsIf_load_mid (by rfl) 35 (.tmp 63) rfl p 0 rfl CLzz _ (fun _ hw'=>Cr hw' hl4 HC4.out) Tryz.underlying35 rfl HCI.out);refine eO 4 ?_;refine Z2 8 13 (fun K hK=>?_) (fun K hK=>?_);(focus (go_simp;(go_at_call 6;refine (HRu2.out _ Zb).mono ?_;rintro e w5 ⟨V5,a5,c5,rfl,h51,ho5,hb5⟩;have hb45:Below w4.heap.size w4 w5:=Hv (show Below w4.heap.size w4 _ from Zb) (hb5.mono (by simp));(try (have bxb:=aj hb5 (cI w4 _) (dJ w4 _)));(try dsimp only));(try go_wp2_with fail);refine Zk hK (hS:=by (try dsimp only);(first|exact Hq _ _|exact (Hq _ _).drew|exact hb45|exact hb45.alloc hb45.size _|exact aW (hb45.alloc hb45.size _) hb45.size|exact aW hb45 (Hz _)|exact Zb)) fun hHeld=>?_;clear hK K;refine eO 9 ?_;refine Z1 13 (fun K hK=>?_);go_simp;refine Zk hK (hS:=by (try dsimp only);(first|exact Hq _ _|exact (Hq _ _).drew|exact hb45|exact hb45.alloc hb45.size _|exact aW (hb45.alloc hb45.size _) hb45.size|exact aW hb45 (Hz _)|exact Zb)) fun hHeld=>?_;clear hK K));rotate_left 1;(focus (go_simp;refine Zk hK (hS:=by (try dsimp only);(first|exact Hq _ _|exact (Hq _ _).drew|exact hb45|exact hb45.alloc hb45.size _|exact aW (hb45.alloc hb45.size _) hb45.size|exact aW hb45 (Hz _)|exact Zb)) fun hHeld=>?_;clear hK K;refine Z1 8 (fun K hK=>?_);go_simp;(go_at_call 6;refine (HRu2.out _ Zb).mono ?_;rintro e w5 ⟨V5,a5,c5,rfl,h51,ho5,hb5⟩;have hb45:Below w4.heap.size w4 w5:=Hv (show Below w4.heap.size w4 _ from Zb) (hb5.mono (by simp));(try (have bxb:=aj hb5 (cI w4 _) (dJ w4 _)));(try dsimp only));(try go_wp2_with fail);refine Zk hK (hS:=by (try dsimp only);(first|exact Hq _ _|exact (Hq _ _).drew|exact hb45|exact hb45.alloc hb45.size _|exact aW (hb45.alloc hb45.size _) hb45.size|exact aW hb45 (Hz _)|exact Zb)) fun hHeld=>?_;clear hK K;refine eO 9 ?_));rotate_left 1;(all_goals (refine Z1 14 (fun K hK=>?_);rw [if_pos (by rfl)];(first|(refine Iw 55 (.tmp 15) (.tmp 70) rfl w5.heap.size (ds RK.1 V5).toArray rfl rfl 55 bP (az _ rfl) (by kernel_rfl) rfl h51 ?_)|(refine Iw 55 (.tmp 15) (.tmp 70) rfl w4.heap.size (ds RK.1 V5).toArray rfl rfl 55 bP bxb (by kernel_rfl) rfl h51 ?_));refine Zk hK (hS:=by (try dsimp only);(first|exact Hq _ _|exact (Hq _ _).drew|exact hb45|exact hb45.alloc hb45.size _|exact aW (hb45.alloc hb45.size _) hb45.size|exact aW hb45 (Hz _)|exact Zb)) fun hHeld=>?_;clear hK K;refine df 15 ?_));(all_goals refine Zd ?_))
    ·refine aY _ (fun wz hwz=>?_)
     have b5:Below w5.heap.size w5 wz:=by rw [hwz];exact aW ((Hq _ _).alloc (Hz _) _) (Hz _)
     have hD:=And.intro (hb45.trans (b5.mono hb45.size)) ((ho5.keep b5.size (fun b hb _=>b5.block b hb)).mono (I0 _))
     obtain ⟨nb,hnb⟩:∃ nb,nb=w5.heap.size:=⟨_,rfl⟩
     rw [← hnb] at hwz ⊢
     exact key nb V5 a5 c5 wz hD
    ·refine aY _ (fun wz hwz=>?_)
     have b5:Below w4.heap.size w5 wz:=by rw [hwz];exact aW (Hq _ _) (Hz _)
     have hD:=And.intro (hb45.trans b5) ((ho5.keep (w':=wz) b5.size (fun b hb hN=>by rw [hwz];exact setRow_other _ _ _ _ (by simp at hN;omega))).mono (I0 _))
     obtain ⟨nb,hnb⟩:∃ nb,nb=w4.heap.size:=⟨_,rfl⟩
     rw [← hnb] at hwz ⊢
     exact key nb V5 a5 c5 wz hD
   case jr1=>
    intro nb V5 a5 c5 wz hD
    have HD:=Hp hD
    have HO5:=Hp (HO4.out.keep hD.1.size (fun b hb _=>hD.1.block b hb))
    have HRl:(runW (dx c) EV).2.length=n:=by
     have h1:=runW_len (dx c) EV (k:=EV.length) (Hz _)
     rw [List.take_length,HEl.out] at h1
     exact h1
    have HKl:RK.2.length=k:=by rw [HRK.out];exact runW_len (dx c) EV (by rw [HEl.out];exact hkn)
    clear hD
    go_wp2
    go_loopw [18] (fun i w7=>∃ j:Nat,j≤k∧i=.int .i64 j∧∃ m,w7=wz.drewN m) (fun i _=>k - (intOf i).toNat)
    case atStart=>exact ⟨0,I0 _,rfl,by first|exact ⟨_,rfl⟩|exact ⟨0,rfl⟩|exact ⟨_,World.drewN_drewN _ _ _⟩⟩
    case round=>
     obtain ⟨j,hj,rfl,m,rfl⟩:=hrel
     rcases (show j<k∨j=k by omega) with hlt|rfl
     ·have hlt':(j:Int)<(k:Int):=by omega
      have hlt2:(j:Int)<(n:Int):=by omega
      have j0:(0:Int)≤(j:Int):=by omega
      have hpre:RK.2.getD j []=(runW (dx c) EV).2.getD j []:=by
       have h1:=runW_pre (dx c) EV hlt (by rw [HEl.out];exact hkn)
       have h2:=runW_pre (dx c) EV (i:=j) (k:=EV.length) (by rw [HEl.out];omega) (Hz _)
       rw [List.take_length] at h2
       rw [HRK.out,h1,← h2]
      obtain ⟨VV,hvl,hvr,hvo⟩:=HO5.out
      obtain ⟨UU,hul,hur,huo⟩:=HD.out.2
      have hvk:=(hvo j (by rw [HRl];omega)).1
      have huk:=(huo j (by rw [HKl];omega)).1
      rw [hpre] at huk
      obtain ⟨O,hO⟩:∃ O,O=(runW (dx c) EV).2.getD j []:=⟨_,rfl⟩
      rw [← hO] at hvk huk
      obtain ⟨av2,cv2,ev,_⟩:=aq hvk
      obtain ⟨auzz,cuzz,euzz,_⟩:=aq huk
      rw [ev] at hvk
      rw [euzz] at huk
      obtain ⟨_,_,e1,_,_,_,pt⟩:=aK undef hvr.1
      obtain ⟨_,_,e2,_,_,_,puzz⟩:=aK undef hur.1
      injection e1 with e1 _ _
      injection e2 with e2 _ _
      have hvn:VV.length=n:=by rw [hvl,HRl]
      have hun:UU.length=k:=by rw [hul,HKl]
      obtain ⟨bo,oo,e3,_,qvzz⟩:=pt (by intro e;rw [e] at hvn;simp at hvn;omega)
      obtain ⟨bu,ou,e4,_,qu⟩:=puzz (by intro e;rw [e] at hun;simp at hun;omega)
      rw [← e1] at e3
      rw [← e2] at e4
      subst e3 e4
      have v0:=qvzz j 0 (by omega) (by omega)
      have u0:=qu j 0 (by omega) (by omega)
      rw [ev] at v0
      rw [euzz] at u0
      simp only [I1,Nat.mul_one,Nat.add_zero] at v0 u0
      have HV1:=Hp hvk
      have HV2:=Hp huk
      clear hvk huk hvo huo hvr hur hvl hul hO ev euzz e1 e2 pt puzz qvzz qu hvn hun hpre
      go_upto_region 15 with fail
      have hsm:=prog_same (w:=wz.drewN m) (au HV1.out (aJ (Hq _ _))) (au HV2.out (aJ (Hq _ _)))
      have HSm:=Hp (fun x=>(hsm (wz.drewN (m+x)) ⟨_,(World.drewN_drewN _ _ _).symm⟩).mono (R':=fun e w''=>e=Ending.returned (.bool true)∧∃ n,w''=wz.drewN (m+n)) (by rintro e w9 ⟨rfl,k9zz,rfl⟩;exact ⟨rfl,k9zz,World.drewN_drewN _ _ _⟩))
      clear hsm
      go_quiet (first|(go_at_call 7;exact HSm.out _))
      go_wp2
      go_roundw
      case rel=>exact ⟨j+1,by omega,by go_num,by first|exact ⟨_,rfl⟩|exact ⟨_,World.drewN_drewN _ _ _⟩⟩
      case measure=>simp [intOf];omega
     ·have hgj:¬ (j:Int)<(j:Int):=by omega
      go_wp2
      go_ret
      exact ⟨rfl,HWr.out.trans ((aJ (HR4.out.trans (HD.out.1.mono HR4.out.size))).mono HWr.out.size)⟩
end Go.Proofs.YtneailjecbfljaaGreatDoor
