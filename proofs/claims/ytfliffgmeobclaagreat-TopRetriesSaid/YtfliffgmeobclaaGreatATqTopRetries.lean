/- Texts of the row's proof. Conditions: none. -/
import Derived.Test.YtfliffgmeobclaaGreatK07
import Derived.Test.YtfliffgmeobclaaGreatK43
import Derived.Test.YtfliffgmeobclaaGreatATpC2
import Derived.Test.YtfliffgmeobclaaGreatATallyOf
import Derived.Test.YtfliffgmeobclaaGreatATalG
namespace Go.Proofs.YtfliffgmeobclaaGreat
set_option maxRecDepth 100000
set_option maxHeartbeats 8000000
open Go.RowKit
theorem walk_TopRetries (v0 v1:Value) (W:World) (o0:Is_Setup W v0) (o1:Is_sl_Deed W v1) :Calls Tryz.prog 3 #[v0,v1] W fun e w'=>e=.returned (.bool true)∧Below W.heap.size W w':=by
 obtain ⟨s,rfl,hs⟩:=o0
 obtain ⟨L,hr,hd,_⟩:=o1
 obtain ⟨av,cv,rfl,_⟩:=aq hr
 have hcf:=Gl s
 have hat:=xM hcf L (most:=80) (by omega)
 have hpl:∀ w',Below W.heap.size W w'→Calls Tryz.prog 8 #[.agg (Su.cells s).toArray,.slice av L.length cv,.int .i64 ((80:Nat):Int)] w' (GG w' (Gm s) L 80):=fun w' hb=>GT s hs L hd _ (au hr hb) 80 (by omega)
 obtain ⟨c,hc⟩:∃ c,c=Gm s:=⟨_,rfl⟩
 rw [← hc] at hpl hcf hat
 obtain ⟨SA,hSA⟩:∃ SA,SA=(Su.cells s).toArray:=⟨_,rfl⟩
 rw [← hSA] at hpl ⊢
 have HSI:=Hm (show (Tryz.prog.info? 24).map (·.size)=some SA.size by rw [hSA];show _=some 16;kernel_rfl)
 have HPl:=Hm hpl
 have HF:=Hm hcf
 have HAt:=Hm hat
 have HK:=Hm (show (W.alloc (.cells SA 24 (0,0))).heap[W.heap.size]?=some (.cells SA 24 (0,0)) from az _ rfl)
 have HB0:=Hm (show Below W.heap.size W (W.alloc (.cells SA 24 (0,0))) from (Hn _ _).alloc (Hv _) _)
 clear hs hd hr hcf hc hSA hat hpl
 go_enter Tryz.func3,Tryz.ntmps3
 go_wp2_with (first|(refine Iq rfl 24 (.tmp 2) rfl W.heap.size rfl 24 SA (0,0) _ HK.out Tryz.underlying24 rfl HSI.out ?_)|(go_at_call 8;refine (HPl.out _ HB0.out).mono ?_;rintro e w1 ⟨p,VL,MS,vs,vg,rfl,hpg,hb1⟩;have hw1:=HB0.out.trans (hb1.mono HB0.out.size);have HW1:=Hm hw1;have HPg:=Hm hpg;clear hb1 hpg hw1))
 obtain ⟨P,hP⟩:∃ P,P=iI (dy c) L 80:=⟨_,rfl⟩
 have hr1:=ret_play HF.out L (most:=80) (by omega)
 have hr2:=reply_play (dy c) L 80
 rw [← hP] at HPg HAt hr1 hr2
 have hfit:=fit_all HAt.out.ok
 have hsl:P.steps.length≤84:=by have h1:=HAt.out.len;simp at h1;omega
 have hol:(outsA P).length≤P.steps.length*160:=outs_le HAt.out.ok P.steps.length (Hv _)
 have hct:Calls Tryz.prog 10 #[.pointer (some ⟨p,0,none⟩)] w1 (OutsPost w1 P):=prog_outputs HPg.out HAt.out.ok (by omega)
 have xpb:=HPg.out.bk
 clear hP
 unfold OutsPost at hct
 change Calls Tryz.prog 10 #[.pointer (some ⟨p,0,none⟩)] w1 (fun e w'=>∃ v,e=.returned v∧aM w1.heap.size w' 7 v ((outsA P).map Out.cells)∧Below w1.heap.size w1 w') at hct
 obtain ⟨O,hO⟩:∃ O,O=outsA P:=⟨_,rfl⟩
 rw [← hO] at hct hr1 hr2 hfit hol
 have h320:O.length≤13440:=by omega
 have k5:=cnt_kc O (j:=5) (by omega)
 have k1:=cnt_kc O (j:=1) (by omega)
 have k8:=cnt_kc O (j:=8) (by omega)
 have g5:=cnt_le O 5
 have g1:=cnt_le O 1
 rw [show ((5:Nat):Int)=5 from rfl] at k5
 rw [show ((1:Nat):Int)=1 from rfl] at k1
 rw [show ((8:Nat):Int)=8 from rfl] at k8
 rw [← k5,← k1] at hr1
 rw [← k8] at hr2
 have xp10:w1.cell? ⟨p,10,none⟩=some (.int .i64 c.bn):=by rw [ae xpb 10];rfl
 have xp11:w1.cell? ⟨p,11,none⟩=some (.int .i64 c.bd):=by rw [ae xpb 11];rfl
 have xp12:w1.cell? ⟨p,12,none⟩=some (.int .i64 c.bb):=by rw [ae xpb 12];rfl
 have hbud:i8 c.bn c.bd c.bb:=HF.out.2.1
 unfold i8 at hbud
 obtain ⟨bn,hbn⟩:∃ q,q=c.bn:=⟨_,rfl⟩
 obtain ⟨bd,hbd⟩:∃ q,q=c.bd:=⟨_,rfl⟩
 obtain ⟨bb,hbb⟩:∃ q,q=c.bb:=⟨_,rfl⟩
 rw [← hbn,← hbd,← hbb] at hbud hr1
 rw [← hbn] at xp10
 rw [← hbd] at xp11
 rw [← hbb] at xp12
 have HX:=Hm (And.intro xp10 (And.intro xp11 xp12))
 have HLp:=Hm (lt_of_block xpb)
 have HR:=Hm (And.intro hr1 (And.intro hr2 (And.intro g5 g1)))
 have HBu:=Hm hbud
 have HFi:=Hm hfit
 clear hO hol hsl k5 k1 k8 hr1 hr2 g5 g1 xp10 xp11 xp12 hbn hbd hbb hbud xpb hfit
 refine hct.mono ?_
 rintro e w2 ⟨v,rfl,hrow,hb2⟩
 obtain ⟨av2,cp,rfl,_⟩:=aq hrow.1
 have HB2:=Hm hb2
 have hto:=prog_TOf_ok _ O w2 hrow.1 (by omega) HFi.out
 have HTo:=Hm hto
 clear hct hrow hb2 hto
 go_wp2_with fail
 refine HTo.out.mono ?_
 rintro e w3 ⟨rfl,hb3⟩
 have HB3:=Hm (HB2.out.trans (hb3.mono HB2.out.size))
 obtain ⟨TV,hTV⟩:∃ t,t=talV O:=⟨_,rfl⟩
 rw [← hTV]
 have t1:TV[1]?=some (.int .i64 (cnt O 1)):=by rw [hTV];exact talV_get O 1 (by omega)
 have t5:TV[5]?=some (.int .i64 (cnt O 5)):=by rw [hTV];exact talV_get O 5 (by omega)
 have t8:TV[8]?=some (.int .i64 (cnt O 8)):=by rw [hTV];exact talV_get O 8 (by omega)
 have HTi:=Hm (show (Tryz.prog.info? 32).map (·.size)=some TV.size by rw [hTV,size_talV];kernel_rfl)
 have HTs:=Hm (show TV.size=17 by rw [hTV,size_talV])
 have HT1:=Hm (show TV.all (·.oneCell')=true by rw [hTV];exact one_talV O)
 have HT:=Hm (And.intro t1 (And.intro t5 t8))
 clear hb3 hTV t1 t5 t8
 go_upto_region 3 with (refine Ir rfl 32 (.tmp 7) (.tmp 20) rfl w3.heap.size TV rfl rfl 32 _ (az _ rfl) HTi.out (by rw [HTs.out];rfl) HT1.out ?_)
 refine aY _ (fun w4 hw4=>?_)
 have hb4:Below w3.heap.size w3 w4:=by rw [hw4];exact aW ((Hn _ _).alloc (Hv _) _) (Hv _)
 have hk4:w4.heap[w3.heap.size]?=some (.cells TV 32 (0,0)):=by rw [hw4];exact aZ (az _ rfl)
 obtain ⟨bt,hbt⟩:∃ b,b=w3.heap.size:=⟨_,rfl⟩
 rw [← hbt] at hk4 hw4 ⊢
 have HB4:=Hm (HB3.out.trans (hb4.mono HB3.out.size))
 have HK4:=Hm hk4
 have x10:=ah HB4.out HX.out.1 HLp.out
 have x11:=ah HB4.out HX.out.2.1 HLp.out
 have x12:=ah HB4.out HX.out.2.2 HLp.out
 clear hw4 hb4 hk4 hbt
 go_upto_region 4 with fail
 refine aY _ (fun w5 hw5=>?_)
 have hb5:Below w4.heap.size w4 w5:=by rw [hw5];exact Zb
 have hk5:w5.heap[w4.heap.size]?=some (.cells #[.int .i64 bn,.int .i64 bd,.int .i64 bb] 39 (0,0)):=by rw [hw5];exact az _ rfl
 have hk4:=aj hb5 HK4.out (lt_of_block HK4.out)
 have z1:w5.cell? ⟨bt,1,none⟩=some (.int .i64 (cnt O 1)):=by rw [ae hk4 1];exact HT.out.1
 have z5:w5.cell? ⟨bt,5,none⟩=some (.int .i64 (cnt O 5)):=by rw [ae hk4 5];exact HT.out.2.1
 have z8zz:w5.cell? ⟨bt,8,none⟩=some (.int .i64 (cnt O 8)):=by rw [ae hk4 8];exact HT.out.2.2
 have y0:w5.cell? ⟨w4.heap.size,0,none⟩=some (.int .i64 bn):=ae hk5 0
 have y1:w5.cell? ⟨w4.heap.size,1,none⟩=some (.int .i64 bd):=ae hk5 1
 have y2:w5.cell? ⟨w4.heap.size,2,none⟩=some (.int .i64 bb):=ae hk5 2
 obtain ⟨hr1,hr2,g5,g1⟩:=HR.out
 have hbud:=HBu.out
 obtain ⟨n5,hn5⟩:∃ n,n=cnt O 5:=⟨_,rfl⟩
 obtain ⟨n1,hn1⟩:∃ n,n=cnt O 1:=⟨_,rfl⟩
 obtain ⟨n8zz,hn8⟩:∃ n,n=cnt O 8:=⟨_,rfl⟩
 rw [← hn5] at z5 hr1 g5
 rw [← hn1] at z1 hr1 g1
 rw [← hn8] at z8zz hr2
 have m1:0≤(n5:Int)*bd:=Int.mul_nonneg (by omega) (by omega)
 have m2:(n5:Int)*bd≤13440*20:=Int.mul_le_mul (by omega) (by omega) (by omega) (by omega)
 have m3:0≤bb*bd:=Int.mul_nonneg (by omega) (by omega)
 have m4:bb*bd≤20*20:=Int.mul_le_mul (by omega) (by omega) (by omega) (by omega)
 have m5:0≤(n1:Int)*bn:=Int.mul_nonneg (by omega) (by omega)
 have m6:(n1:Int)*bn≤13440*20:=Int.mul_le_mul (by omega) (by omega) (by omega) (by omega)
 have q1:IntKind.i64.wrap ((n5:Int)*bd)=(n5:Int)*bd:=Io _ (by omega)
 have q2:IntKind.i64.wrap (bb*bd)=bb*bd:=Io _ (by omega)
 have q3:IntKind.i64.wrap ((n1:Int)*bn)=(n1:Int)*bn:=Io _ (by omega)
 have q4:IntKind.i64.wrap (bb*bd+(n1:Int)*bn)=bb*bd+(n1:Int)*bn:=Io _ (by omega)
 have r2:(3:Int)≤(n8zz:Int):=by omega
 have HB5:=Hm (HB4.out.trans (hb5.mono HB4.out.size))
 clear hw5 hb5 hk5 hk4 hn5 hn1 hn8 g5 g1 hr2 hbud m1 m2 m3 m4 m5 m6
 go_wp2
 go_ret
 exact ⟨rfl,HW1.out.trans (HB5.out.mono HW1.out.size)⟩
end Go.Proofs.YtfliffgmeobclaaGreat
