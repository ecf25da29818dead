/- Texts of the row's proof. Conditions: none. -/
import Derived.Test.YtocbhafgjepnjaaGreatK07
import Derived.Test.YtocbhafgjepnjaaGreatCTpI
import Derived.Test.YtocbhafgjepnjaaGreatK43
import Derived.Test.YtocbhafgjepnjaaGreatCTpA2
import Derived.Test.YtocbhafgjepnjaaGreatCTpN
namespace Go.Proofs.YtocbhafgjepnjaaGreat
set_option maxRecDepth 100000
set_option maxHeartbeats 8000000
open Go.RowKit
theorem walk_TopKept (v0 v1 v2:Value) (W:World) (o0:Is_Setup W v0) (o1:Is_sl_Deed W v1) (o2:Is_Coming W v2):Calls Tryz.prog 12 #[v0,v1,v2] W fun e w'=>e=.returned (.bool true)∧Below W.heap.size W w':=by
 obtain ⟨s,rfl,hs⟩:=o0
 obtain ⟨L,hr,hd,_⟩:=o1
 obtain ⟨ka,aazz,ba,cazz,rfl,ikzz,iazz,ibzz,iczz⟩:=o2
 obtain ⟨av,cv,rfl,_⟩:=aj hr
 have hcf:=pa s
 have hat:=jD hcf L (most:=60) (by omega)
 have hpl:∀ w',Below W.heap.size W w'→Calls Tryz.prog 13 #[.agg (Su.cells s).toArray,.slice av L.length cv,.int .i64 ((60:Nat):Int)] w' (pf w' (yC s) L 60):=fun w' hb=>kc s hs L hd _ (aq hr hb) 60 (by omega)
 obtain ⟨c,hc⟩:∃ c,c=yC s:=⟨_,rfl⟩
 rw [← hc] at hpl hcf hat
 obtain ⟨SA,hSA⟩:∃ SA,SA=(Su.cells s).toArray:=⟨_,rfl⟩
 rw [← hSA] at hpl ⊢
 have HSI:=Ib (show (Tryz.prog.info? 24).map (·.size)=some SA.size by rw [hSA];show _=some 16;kernel_rfl)
 have hce:=prog_Event ka aazz ba cazz ikzz iazz ibzz iczz
 have hge:=evC_good ka aazz ba cazz
 obtain ⟨ev,hev⟩:∃ ev,ev=evC ka aazz ba cazz:=⟨_,rfl⟩
 rw [← hev] at hce hge
 have HCE:=Ib hce
 have HE:=Ib hge
 have HPl:=Ib hpl
 have HAt:=Ib hat
 clear hs hd hr hcf hc hSA hat hpl hce hge hev ikzz iazz ibzz iczz
 go_enter Tryz.func12,Tryz.ntmps12
 go_upto_region 1 with fail
 refine aW _ (fun wa hwa=>?_)
 have hba:Below W.heap.size W wa:=by rw [hwa];exact Zb
 have hsa:wa.heap.size=W.heap.size+2:=by rw [hwa];simp
 have hka:wa.heap[W.heap.size]?=some (.cells SA 24 (0,0)):=by rw [hwa];exact (If _ _ _ (by simp)).trans (au _ rfl)
 have hkc:wa.heap[W.heap.size+1]?=some (.cells #[.int .i64 ka,.int .i64 aazz,.int .i64 ba,.int .i64 cazz] 87 (0,0)):=by rw [hwa];exact au _ (by simp)
 have HBa:=Ib hba
 have HKa:=Ib hka
 have HKc:=Ib hkc
 clear hwa hba hka hkc
 go_wp2_with (refine t7 rfl 24 (.tmp 3) rfl W.heap.size rfl 24 SA (0,0) _ HKa.out Tryz.underlying24 rfl HSI.out ?_)
 refine (HPl.out _ HBa.out).mono ?_
 rintro e w1 ⟨p,VL,MS,vs,vg,rfl,hpg,hb1⟩
 obtain ⟨P,hP⟩:∃ P,P=fW (di c) L 60:=⟨_,rfl⟩
 rw [← hP] at hpg HAt
 clear hP
 have hk1:=ai hb1 HKc.out (by omega)
 have y0:w1.cell? ⟨W.heap.size+1,0,none⟩=some (.int .i64 ka):=by rw [aa hk1 0];rfl
 have y1:w1.cell? ⟨W.heap.size+1,1,none⟩=some (.int .i64 aazz):=by rw [aa hk1 1];rfl
 have y2:w1.cell? ⟨W.heap.size+1,2,none⟩=some (.int .i64 ba):=by rw [aa hk1 2];rfl
 have y3:w1.cell? ⟨W.heap.size+1,3,none⟩=some (.int .i64 cazz):=by rw [aa hk1 3];rfl
 have hw1:=HBa.out.trans (hb1.mono HBa.out.size)
 have HW1:=Ib hw1
 have HPg:=Ib hpg
 clear hk1 hb1 hw1 hpg hsa
 go_wp2_with fail
 refine (HCE.out w1).mono ?_
 rintro e w2 ⟨rfl,hb2⟩
 obtain ⟨EA,hEA⟩:∃ EA,EA=(Ev.cells ev).toArray:=⟨_,rfl⟩
 rw [← hEA]
 have HEA:=Ib hEA
 have HB2:=Ib hb2
 have hz2:=hb2.size
 clear hEA hb2 y0 y1 y2 y3
 go_upto_region 3 with (refine IP rfl 59 (.tmp 9) (.tmp 23) rfl w2.heap.size EA rfl rfl 59 _ (au _ rfl) (by rw [HEA.out];exact eR _) (by rw [HEA.out];rfl) (by rw [HEA.out];exact lV _) ?_)
 refine aW _ (fun wb hwb=>?_)
 obtain ⟨be,hbe⟩:∃ be,be=w2.heap.size:=⟨_,rfl⟩
 have bwb:Below w1.heap.size w1 wb:=by rw [hwb];exact HB2.out.trans ((aQ ((Ic _ _).alloc (Ij _) _) (Ij _)).mono hz2)
 have hbk:wb.heap[be]?=some (.cells (Ev.cells ev).toArray 59 (0,0)):=by rw [hwb,hbe,← HEA.out];exact aX (au _ rfl)
 rw [← hbe] at hwb ⊢
 have HG:=Ib (HPg.out.below bwb)
 have HOk:=Ib HAt.out.ok
 have HBw:=Ib (HW1.out.trans (bwb.mono HW1.out.size))
 have HBe:=Ib hbk
 have hnow:P.last.now≤64:=by have h1:=HAt.out.ok.nw;have h2:=HAt.out.len;simp at h2;omega
 have hmy:EvMay P.last ev:=HE.out.may (by omega)
 have HMy:=Ib hmy
 obtain ⟨R,hR⟩:∃ R,R=ib P.last ev:=⟨_,rfl⟩
 have HR:=Ib hR
 have hpb:p<wb.heap.size:=lt_of_block HG.out.bk
 have lbe:=lt_of_block hbk
 have hbx:Below W.heap.size W wb:=HBw.out
 clear hwb bwb hbk hbe hmy hR hz2 hbx
 refine join5 (P:=?jP1) (F:=fun nb V2 a2 c2 wz=>DidW wb wz R.1 R.2 nb V2 a2 c2) (fun key=>?jm1) ?jr1
 case jm1=>
  (refine Zr (fun w':World=>w'.heap[p]?=some (.cells (CU c vs P.last VL vg).toArray 57 (0,0))∧w'.heap[be]?=some (.cells (Ev.cells ev).toArray 59 (0,0))) (fun hHeld=>?_) (by (try dsimp only);(first|exact ⟨HG.out.bk,HBe.out⟩|exact hk3|exact ⟨(If _ _ _ hpb).trans HG.out.bk,(If _ _ _ lbe).trans HBe.out⟩|exact ⟨(If _ _ _ (by omega)).trans hk3.1,(If _ _ _ (by omega)).trans hk3.2⟩|exact ⟨aZ ((If _ _ _ (by omega)).trans hk3.1) (by omega),aZ ((If _ _ _ (by omega)).trans hk3.2) (by omega)⟩|exact ⟨aZ hk3.1 (by omega),aZ hk3.2 (by omega)⟩));refine dd 0 ?_;refine Zt 2 ?_;refine Zw 3 ?_ (hy:=yieldsIf_load_mid (by rfl) 54 (.tmp 27) rfl p 17 rfl (cQ P.last VL) _ (fun _ hw'=>pO hw'.1) Tryz.underlying54 rfl (by kernel_rfl));refine Zw 4 ?_ (hy:=yieldsIf_load_mid (by rfl) 59 (.tmp 9) rfl be 0 rfl (Ev.cells ev) _ (fun _ hw'=>nd hw'.2) Tryz.underlying59 rfl (by kernel_rfl));refine Z2 5 10 (fun K hK=>?_) (fun K hK=>?_);(focus (go_simp;(go_at_call 24;refine (zo (WA.below HG.out.wl.wa Zb) HOk.out.wd ev HE.out.ok HMy.out).mono ?_;rw [← HR.out];rintro e w2 ⟨V2,a2,c2,rfl,hk2,hr2,hb2⟩;have hz2:=hb2.size;(try simp at hz2);have hk3:w2.heap[p]?=some (.cells (CU c vs P.last VL vg).toArray 57 (0,0))∧w2.heap[be]?=some (.cells (Ev.cells ev).toArray 59 (0,0)):=(by first|exact ⟨ai hb2 HG.out.bk hpb,ai hb2 HBe.out lbe⟩|exact ⟨ai hb2 ((heap_alloc_old _ _ hpb).trans HG.out.bk) (by simp;omega),ai hb2 ((heap_alloc_old _ _ lbe).trans HBe.out) (by simp;omega)⟩);(try (have bxb:=ai hb2 (cE wb _) (dL wb _)));(try dsimp only));(try go_wp2_with fail);refine Zk hK (hS:=by (try dsimp only);(first|exact ⟨HG.out.bk,HBe.out⟩|exact hk3|exact ⟨(If _ _ _ hpb).trans HG.out.bk,(If _ _ _ lbe).trans HBe.out⟩|exact ⟨(If _ _ _ (by omega)).trans hk3.1,(If _ _ _ (by omega)).trans hk3.2⟩|exact ⟨aZ ((If _ _ _ (by omega)).trans hk3.1) (by omega),aZ ((If _ _ _ (by omega)).trans hk3.2) (by omega)⟩|exact ⟨aZ hk3.1 (by omega),aZ hk3.2 (by omega)⟩)) fun hHeld=>?_;clear hK K;refine eP 6 ?_;refine Z1 10 (fun K hK=>?_);go_simp;refine Zk hK (hS:=by (try dsimp only);(first|exact ⟨HG.out.bk,HBe.out⟩|exact hk3|exact ⟨(If _ _ _ hpb).trans HG.out.bk,(If _ _ _ lbe).trans HBe.out⟩|exact ⟨(If _ _ _ (by omega)).trans hk3.1,(If _ _ _ (by omega)).trans hk3.2⟩|exact ⟨aZ ((If _ _ _ (by omega)).trans hk3.1) (by omega),aZ ((If _ _ _ (by omega)).trans hk3.2) (by omega)⟩|exact ⟨aZ hk3.1 (by omega),aZ hk3.2 (by omega)⟩)) fun hHeld=>?_;clear hK K));rotate_left 1;(focus (go_simp;refine Zk hK (hS:=by (try dsimp only);(first|exact ⟨HG.out.bk,HBe.out⟩|exact hk3|exact ⟨(If _ _ _ hpb).trans HG.out.bk,(If _ _ _ lbe).trans HBe.out⟩|exact ⟨(If _ _ _ (by omega)).trans hk3.1,(If _ _ _ (by omega)).trans hk3.2⟩|exact ⟨aZ ((If _ _ _ (by omega)).trans hk3.1) (by omega),aZ ((If _ _ _ (by omega)).trans hk3.2) (by omega)⟩|exact ⟨aZ hk3.1 (by omega),aZ hk3.2 (by omega)⟩)) fun hHeld=>?_;clear hK K;refine Z1 5 (fun K hK=>?_);go_simp;(go_at_call 24;refine (zo (WA.below HG.out.wl.wa Zb) HOk.out.wd ev HE.out.ok HMy.out).mono ?_;rw [← HR.out];rintro e w2 ⟨V2,a2,c2,rfl,hk2,hr2,hb2⟩;have hz2:=hb2.size;(try simp at hz2);have hk3:w2.heap[p]?=some (.cells (CU c vs P.last VL vg).toArray 57 (0,0))∧w2.heap[be]?=some (.cells (Ev.cells ev).toArray 59 (0,0)):=(by first|exact ⟨ai hb2 HG.out.bk hpb,ai hb2 HBe.out lbe⟩|exact ⟨ai hb2 ((heap_alloc_old _ _ hpb).trans HG.out.bk) (by simp;omega),ai hb2 ((heap_alloc_old _ _ lbe).trans HBe.out) (by simp;omega)⟩);(try (have bxb:=ai hb2 (cE wb _) (dL wb _)));(try dsimp only));(try go_wp2_with fail);refine Zk hK (hS:=by (try dsimp only);(first|exact ⟨HG.out.bk,HBe.out⟩|exact hk3|exact ⟨(If _ _ _ hpb).trans HG.out.bk,(If _ _ _ lbe).trans HBe.out⟩|exact ⟨(If _ _ _ (by omega)).trans hk3.1,(If _ _ _ (by omega)).trans hk3.2⟩|exact ⟨aZ ((If _ _ _ (by omega)).trans hk3.1) (by omega),aZ ((If _ _ _ (by omega)).trans hk3.2) (by omega)⟩|exact ⟨aZ hk3.1 (by omega),aZ hk3.2 (by omega)⟩)) fun hHeld=>?_;clear hK K;refine eP 6 ?_));rotate_left 1;(all_goals (refine Z1 11 (fun K hK=>?_);rw [if_pos (by rfl)];(first|(refine IQ 54 (.tmp 10) (.tmp 31) rfl w2.heap.size (cQ R.1 V2).toArray rfl rfl 54 bQ (au _ rfl) (by kernel_rfl) rfl (kj hk2) ?_)|(refine IQ 54 (.tmp 10) (.tmp 31) rfl wb.heap.size (cQ R.1 V2).toArray rfl rfl 54 bQ bxb (by kernel_rfl) rfl (kj hk2) ?_));refine Zk hK (hS:=by (try dsimp only);(first|exact ⟨HG.out.bk,HBe.out⟩|exact hk3|exact ⟨(If _ _ _ hpb).trans HG.out.bk,(If _ _ _ lbe).trans HBe.out⟩|exact ⟨(If _ _ _ (by omega)).trans hk3.1,(If _ _ _ (by omega)).trans hk3.2⟩|exact ⟨aZ ((If _ _ _ (by omega)).trans hk3.1) (by omega),aZ ((If _ _ _ (by omega)).trans hk3.2) (by omega)⟩|exact ⟨aZ hk3.1 (by omega),aZ hk3.2 (by omega)⟩)) fun hHeld=>?_;clear hK K;refine dd 12 ?_));(all_goals refine Zd ?_))
  ·refine aW _ (fun wz hwz=>?_)
   have hD:=DidW.fst (wb:=wb) (Ig (Id (Ic _ _)) (hb2.mono (by simp))) hk2 hr2
   obtain ⟨nb,hnb⟩:∃ nb,nb=w2.heap.size:=⟨_,rfl⟩
   rw [← hnb] at hwz hD ⊢
   exact key nb V2 a2 c2 wz (by rw [hwz];exact hD)
  ·refine aW _ (fun wz hwz=>?_)
   have hD:=DidW.snd (wb:=wb) (Ig (Id ((Ic _ _).alloc (Ij _) _)) (hb2.mono (by simp))) bxb (hk2.imp (fun b _ h=>by simpa using h)) (aE hr2 (by simp))
   obtain ⟨nb,hnb⟩:∃ nb,nb=wb.heap.size:=⟨_,rfl⟩
   rw [← hnb] at hwz hD ⊢
   exact key nb V2 a2 c2 wz (by rw [hwz];exact hD)
 case jr1=>
  intro nb V2 a2 c2 wz hD
  have hwd:WdMay R.1:=by rw [HR.out];exact zM HOk.out.wd HMy.out
  have hno:R.1.now≤65:=by
   rw [HR.out,yz HOk.out.wd HMy.out]
   split<;>omega
  have hso:ev.kind≠7→0<R.2.length:=fun h=>by rw [HR.out];exact List.length_pos_iff.2 (do_some h)
  have hk0:=ai hD.be HBe.out lbe
  have HWd:=Ib hwd
  have HM2:=Ib (show EvMay R.1 gT from kQ.may (by omega))
  have HD:=Ib hD
  have HWz:=Ib (show Below W.heap.size W wz from HBw.out.trans (hD.be.mono HBw.out.size))
  have HK0:=Ib hk0
  have lbz:=lt_of_block hk0
  have hzW:=HWz.out.size
  clear hD hwd hno hk0 lbe hpb
  go_wp2_with (first|(refine t7 rfl 54 (.tmp 10) rfl nb rfl 54 (cQ R.1 V2).toArray (0,0) _ HD.out.bk Tryz.underlying54 rfl (by kernel_rfl) ?_))
  refine (zo (w:=wz) HD.out.wk.wa HWd.out gT FY HM2.out).mono ?_
  rintro e w4 ⟨V3,a3,c3,rfl,hk4,hr4,hb4⟩
  have hkx:=ai hb4 HK0.out lbz
  obtain ⟨kd,hkd⟩:∃ kd,kd=ev.kind:=⟨_,rfl⟩
  have z0:w4.cell? ⟨be,0,none⟩=some (.int .i64 kd):=by rw [aa hkx 0,hkd];rfl
  rw [← hkd] at hso
  have HB4:=Ib (HWz.out.trans (hb4.mono HWz.out.size))
  have HO4:=Ib (kj hk4)
  have hz4:=hb4.size
  obtain ⟨A4,hA4⟩:∃ A,A=(cQ (ib R.1 gT).1 V3).toArray:=⟨_,rfl⟩
  rw [← hA4] at HO4 ⊢
  have HI4:=Ib (show (Tryz.prog.info? 54).map (·.size)=some A4.size by rw [hA4];kernel_rfl)
  have HL4:=Ib (show A4.size=26 by rw [hA4];rfl)
  clear hkx hk4 hr4 hb4 hA4 hkd
  go_upto_region 5 with (first|(refine IP rfl 54 (.tmp 13) (.tmp 38) rfl w4.heap.size A4 rfl rfl 54 bQ (au _ rfl) HI4.out (by rw [HL4.out];rfl) HO4.out ?_))
  refine aW _ (fun w5 hw5=>?_)
  have hb5:Below w4.heap.size w4 w5:=by rw [hw5];exact aQ ((Ic _ _).alloc (Ij _) _) (Ij _)
  have z0':w5.cell? ⟨be,0,none⟩=some (.int .i64 kd):=ae hb5 z0 (by omega)
  have HB5:=Ib (HB4.out.trans (hb5.mono HB4.out.size))
  clear hw5 hb5 z0
  by_cases h7:kd=7
  ·subst h7
   go_wp2
   go_ret
   exact ⟨rfl,HB5.out⟩
  ·have g7zz:(kd == 7)=false:=by simpa using h7
   have h0:=hso h7
   have h0':(0:Int)<(R.2.length:Int):=by omega
   go_wp2
   go_ret
   exact ⟨rfl,HB5.out⟩
end Go.Proofs.YtocbhafgjepnjaaGreat
