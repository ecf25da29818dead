/- Texts of the row's proof. Conditions: none. -/
import Derived.Test.YtocbhafgjepnjaaGreatK43
import Derived.Test.YtocbhafgjepnjaaGreatK46
namespace Go.Proofs.YtocbhafgjepnjaaGreat
set_option maxRecDepth 100000
set_option maxHeartbeats 8000000
section
open Go.RowKit
theorem walk_TopClock (v0 v1:Value) (W:World) (o0:Is_Setup W v0) (o1:Is_sl_Deed W v1) :Calls Tryz.prog 3 #[v0,v1] W fun e w'=>e=.returned (.bool true)∧Below W.heap.size W w':=by
 obtain ⟨s,rfl,hs⟩:=o0;obtain ⟨L,hr,hd,_⟩:=o1;obtain ⟨av,cv,rfl,_⟩:=aj hr;have hcf:=pa s;have hat:=jD hcf L (most:=60) (by omega);have hpl:∀ w',Below W.heap.size W w'→Calls Tryz.prog 13 #[.agg (Su.cells s).toArray,.slice av L.length cv,.int .i64 ((60:Nat):Int)] w' (pf w' (yC s) L 60):=fun w' hb=>kc s hs L hd _ (aq hr hb) 60 (by omega);obtain ⟨c,hc⟩:∃ c,c=yC s:=⟨_,rfl⟩;rw [← hc] at hpl hcf hat;obtain ⟨SA,hSA⟩:∃ SA,SA=(Su.cells s).toArray:=⟨_,rfl⟩;rw [← hSA] at hpl ⊢;have HSI:=Ib (show (Tryz.prog.info? 24).map (·.size)=some SA.size by rw [hSA];show _=some 16;kernel_rfl);have HPl:=Ib hpl;have HF:=Ib hcf;have HAt:=Ib hat;have HK:=Ib (show (W.alloc (.cells SA 24 (0,0))).heap[W.heap.size]?=some (.cells SA 24 (0,0)) from au _ rfl);have HB0:=Ib (show Below W.heap.size W (W.alloc (.cells SA 24 (0,0))) from (Ic _ _).alloc (Ij _) _);clear hs hd hr hcf hc hSA hat hpl;go_enter Tryz.func3,Tryz.ntmps3;go_wp2_with (first|(refine t7 rfl 24 (.tmp 2) rfl W.heap.size rfl 24 SA (0,0) _ HK.out Tryz.underlying24 rfl HSI.out ?_)|(go_at_call 13;refine (HPl.out _ HB0.out).mono ?_;rintro e w1 ⟨p,VL,MS,vs,vg,rfl,hpg,hb1⟩;have hw1:=HB0.out.trans (hb1.mono HB0.out.size);have HW1:=Ib hw1;have HPg:=Ib hpg;clear hb1 hpg hw1));obtain ⟨P,hP⟩:∃ P,P=fW (di c) L 60:=⟨_,rfl⟩;rw [← hP] at HPg HAt;have HPE:=Ib hP;obtain ⟨as_,cs_,hx16,hst⟩:=HPg.out.rd;have HX16:=Ib hx16;have HSt:=Ib hst;have hlp:=lt_of_block HPg.out.bk;have HLp:=Ib hlp;clear hP hx16 hst hlp;go_loopw [7] (fun i wr=>∃ k:Nat,k≤P.steps.length∧i=.int .i64 k∧Below w1.heap.size w1 wr) (fun i _=>P.steps.length - (intOf i).toNat)
 case atStart=>exact ⟨0,Ik _,rfl,Ic _ _⟩
 case round=>
  obtain ⟨k,hk,rfl,hbr⟩:=hrel;have HBr:=Ib hbr;have x16:=ae hbr HX16.out HLp.out
  have hlen:P.steps.length≤2000:=by have h1:=HAt.out.len;simp at h1;omega
  clear hbr;rcases (show k<P.steps.length∨k=P.steps.length by omega) with hlt|rfl
  ·have hlt':(k:Int)<(P.steps.length:Int):=by omega
   have k0:(0:Int)≤(k:Int):=by omega
   obtain ⟨bs,os,rfl,hbs,hrg⟩:=HSt.out (by omega);have hrg':=iB HBr.out hbs (hrg k hlt);have hpgr:=HPg.out.below HBr.out;have hws:=hpgr.ws k hlt;have hok:=HAt.out.ok.st (P.steps.getD k Stp.zero) (by rw [aK hlt];exact Iw _);obtain ⟨s,hs⟩:∃ s,s=P.steps.getD k Stp.zero:=⟨_,rfl⟩;obtain ⟨m,hm⟩:∃ m,m=MS.getD k Ms.zero:=⟨_,rfl⟩;rw [← hs] at hrg' hws hok;rw [← hm] at hrg' hws;have hsi:=tV s m;have h1c:=tM hws;have hsl:=kF s m;obtain ⟨SL,hSL⟩:∃ SL,SL=lc s m:=⟨_,rfl⟩;rw [← hSL] at hrg' hsi h1c hsl;have HRg:=Ib hrg';have HSi:=Ib hsi;have HSz:=Ib (show (Tryz.prog.info? 62).map (·.size)=some SL.toArray.size by rw [hsi];simp);have H1c:=Ib h1c;have HSl:=Ib hsl;have HSL:=Ib hSL;have HWs:=Ib hws;have HOk:=Ib hok;have HS:=Ib hs;have HM:=Ib hm;clear hrg hrg' hpgr hws hok hs hm hsi h1c hsl hSL;have hkk:=Ej HOk.out.1 HOk.out.2.2.2.1;rw [← HOk.out.2.2.2.2.1] at hkk;have hn0:=HOk.out.1.gw.n0;have hn1:=HOk.out.1.gw.n1;obtain ⟨kd,hkd⟩:∃ kd,kd=s.ev.kind:=⟨_,rfl⟩;obtain ⟨n,hn⟩:∃ n,n=s.be.now:=⟨_,rfl⟩;rw [← hkd,← hn] at hkk;rw [← hn] at hn0 hn1;have HKd:=Ib hkd;have HN:=Ib hn;clear hkd hn;go_upto_region 6 with (first|(refine wpList_load_mid rfl 62 (.tmp 30) rfl bs (os+k*61) rfl SL _ HRg.out Tryz.underlying62 rfl HSi.out ?_)|(refine IP rfl 62 (.tmp 8) (.tmp 31) rfl wr.heap.size SL.toArray rfl rfl 62 _ (au _ rfl) HSz.out (by simp [HSl.out]) H1c.out ?_;refine aW _ (fun w2 hw2=>?_);have hb2:Below wr.heap.size wr w2:=(by rw [hw2];exact aQ ((Ic _ _).alloc (Ij _) _) (Ij _));have hbx:w2.heap[wr.heap.size]?=some (.cells SL.toArray 62 (0,0)):=(by rw [hw2];exact aX (au _ rfl));have HB2:=Ib hb2;have HBx:=Ib hbx;clear hw2 hb2 hbx))
   have y24:w2.cell? ⟨wr.heap.size,24,none⟩=some (.int .i64 n):=by rw [aa HBx.out 24,HSL.out,HN.out];rfl
   have y0:w2.cell? ⟨wr.heap.size,0,none⟩=some (.int .i64 kd):=by rw [aa HBx.out 0,HSL.out,HKd.out];rfl
   have hz:wr.heap.size<w2.heap.size:=lt_of_block HBx.out;by_cases h7:kd=7
   ·rw [if_pos h7] at hkk
    have y50:w2.cell? ⟨wr.heap.size,50,none⟩=some (.int .i64 (n+1)):=by rw [aa HBx.out 50,HSL.out,← hkk.1];rfl
    have y58:w2.cell? ⟨wr.heap.size,58,none⟩=some (.int .i64 (n+1)):=by rw [aa HBx.out 58,HSL.out,← hkk.2];rfl
    have hwp:IntKind.i64.wrap (n+1)=n+1:=IL _ (by omega);clear hkk;exact Q74
   ·rw [if_neg h7] at hkk
    have y50:w2.cell? ⟨wr.heap.size,50,none⟩=some (.int .i64 n):=by rw [aa HBx.out 50,HSL.out,← hkk.1];rfl
    have y58:w2.cell? ⟨wr.heap.size,58,none⟩=some (.int .i64 n):=by rw [aa HBx.out 58,HSL.out,← hkk.2];rfl
    clear hkk;exact Q74
  ·exact Q75
end
end Go.Proofs.YtocbhafgjepnjaaGreat
