/- Texts of the row's proof. Conditions: none. -/
import Derived.Test.YtennppmadmgfoaaGreatDoorK27
namespace Go.Proofs.YtennppmadmgfoaaGreatDoor
open Proofs.Tryz
set_option maxRecDepth 100000
set_option maxHeartbeats 8000000
section
open Go.RowKit
def WhAns3 (w:World) (now:Int) (LL:List (List Tm)) (off:List Int) (c:Int) (e:Ending) (w':World):Prop:=∃ v o,e=.returned (.tuple #[.agg #[.int .i64 now,v],o,.int .i64 c])/\LsNew w.heap.size w' v LL/\aN w.heap.size w' 1 o (off.map fun x=>[.int .i64 x])/\Below w.heap.size w w'
theorem WhAns3.nil {w w':World} {c:Int} (h:Below w.heap.size w w'):WhAns3 w 0 [] [] c (.returned (.tuple #[.agg #[.int .i64 0,.slice none 0 0],.slice none 0 0,.int .i64 c])) w':=⟨_,_,rfl,um _ _,bH _ _ _,h⟩
def AdvAns (now:Int) (LL:List (List Tm)) (now':Int) (LL':List (List Tm)) (off:List Int) (c:Int):Prop:=
 (¬ WhMay now LL/\now'=0/\LL'=[]/\off=[]/\c=6)\/
 (WhMay now LL/\now=1099511627776/\now'=0/\LL'=[]/\off=[]/\c=9)\/
 (WhMay now LL/\now<1099511627776/\now'=now+1/\LL'=bN (now+1) (LL.flatten.filter fun t=>decide (now+1<t.at_))/\off=(iL (LL.flatten.filter fun t=>t.at_ == now+1)).map Tm.id/\c=0)
section
variable {now:Int} {LL:List (List Tm)} {now':Int} {LL':List (List Tm)} {off:List Int} {c:Int}
theorem AdvAns.no (h:AdvAns now LL now' LL' off c) (z:¬ WhMay now LL):now'=0/\LL'=[]/\off=[]/\c=6:=by
 rcases h with ⟨_,h⟩|⟨h,_⟩|⟨h,_⟩
 ·exact h
 all_goals exact absurd h z
theorem AdvAns.full (h:AdvAns now LL now' LL' off c) (z:WhMay now LL) (E:now=1099511627776):now'=0/\LL'=[]/\off=[]/\c=9:=by
 rcases h with ⟨h,_⟩|⟨_,_,h⟩|⟨_,h,_⟩
 ·exact absurd z h
 ·exact h
 ·omega
theorem AdvAns.yes (h:AdvAns now LL now' LL' off c) (z:WhMay now LL) (E:now<1099511627776):now'=now+1/\LL'=bN (now+1) (LL.flatten.filter fun t=>decide (now+1<t.at_))/\off=(iL (LL.flatten.filter fun t=>t.at_ == now+1)).map Tm.id/\c=0:=by
 rcases h with ⟨h,_⟩|⟨_,h,_⟩|⟨_,_,h⟩
 ·exact absurd z h
 ·omega
 ·exact h
end
def AvRel (q:Nat) (z wr:World) (n:Nat) (h:Value) (M:List (List Tm)):Prop:=Below q z wr/\wr.cell? ⟨q,0,none⟩=some (.int .i64 (n:Int))/\wr.cell? ⟨q,1,none⟩=some h/\∃ V,eP (q+1) wr h M V
def AvIn (q z:Nat) (J ws h:World) (n E:Nat) (I:Value) (M:List (List Tm)) (X:List Tm):Prop:=Below q J h/\ws.heap.size<=h.heap.size/\h.cell? ⟨q,0,none⟩=some (.int .i64 (n:Int))/\h.cell? ⟨q,1,none⟩=some (.slice (some ⟨z,0,none⟩) 25 E)/\
 h.ownsRow (q+1) 184 2 I X.length (X.map Tm.cells).flatten/\∃ V,eP (q+1) h (.slice (some ⟨z,0,none⟩) 25 E) M V/\∀ b,I.ownBlock=some b->b≠z/\∀ i,i<25->(V.getD i undef).ownBlock≠some b
theorem flat1 {α:Type} (f:α->Value) (X:List α):(X.map fun x=>[f x]).flatten=X.map f:=by
 induction X with
 | nil=>rfl
 | cons x X ih=>simp [ih]
theorem Jf:(prog.info? 3).map (fun i=>(i.zero,i.size,i.bytes))=some (some (.int .i64 0),1,8):=by kernel_rfl
theorem Je:(prog.info? 269).map (fun i=>(i.zero,i.size,i.bytes))=some (some (.agg #[.int .i64 0,.int .i64 0]),2,16):=by kernel_rfl
theorem idx3 (a b c d e f:Int) (W:World) :
  (Instr.index 270 (.agg #[.int .i64 a,.int .i64 b,.int .i64 c,.int .i64 d,.int .i64 e,.int .i64 f]) (.int .i64 0)).run prog W=.ok (.agg #[.int .i64 a,.int .i64 b]) W/\
  (Instr.index 270 (.agg #[.int .i64 a,.int .i64 b,.int .i64 c,.int .i64 d,.int .i64 e,.int .i64 f]) (.int .i64 1)).run prog W=.ok (.agg #[.int .i64 c,.int .i64 d]) W/\
  (Instr.index 270 (.agg #[.int .i64 a,.int .i64 b,.int .i64 c,.int .i64 d,.int .i64 e,.int .i64 f]) (.int .i64 2)).run prog W=.ok (.agg #[.int .i64 e,.int .i64 f]) W:=by
 obtain ⟨K,h,I,z,J⟩:=info_parts Je
 have E:=underlying270
 refine ⟨?_,?_,?_⟩<;>simp [Instr.index,asIntOf,run_underlying E,part,sizeOf,typeInfo,h,z]
theorem uQ (lv:Value) (now:Int) (LL:List (List Tm)) (w:World) (r:lQ w lv LL) (hn:LL.length<=1048576) (hs:LL.flatten.length<=1048576) (now':Int) (LL':List (List Tm)) (off:List Int) (c:Int) (ha:AdvAns now LL now' LL' off c) :
  Calls prog 72 #[.agg #[.int .i64 now,lv]] w (WhAns3 w now' LL' off c):=by
 obtain ⟨a,cp,rfl⟩:=bL r
 have R2:=KL (eo r ((KU (KM _ _) (KY _) (.cells #[.int .i64 now,.slice a LL.length cp] 54)).alloc (by simp) (.cells #[.int .i64 0,.slice none 0 0] 54)))
 have HS:=KL (fun k (h:k<LL.length)=>Lz (jE h) hs)
 have HA:=KL ha
 clear r hs ha
 go_in
 go_wp2_with (go_at_call 90;refine (oG _ now LL _ R2.out (by omega) (fun i hi=>by have:=HS.out i hi;omega)).mono ?_)
 rintro e w1 (⟨q,vl,V,rfl,hm,hq,hq2,hqb,hown,hb1⟩|⟨rfl,hm,hb1⟩)
 rotate_left
 ·obtain ⟨rfl,rfl,rfl,rfl⟩:=HA.out.no hm;obtain ⟨hc1,hf1⟩:=aX hb1;go_wp2;refine LN (v:=.tuple #[.agg #[.int .i64 0,.slice none 0 0],.slice none 0 0,.int .i64 6]) ?_ rfl (WhAns3.nil Zb);simp [results,results72,go_sem, *]
 ·have h25:=hm.2.2.1;have h0:=hm.1;have h1:=hm.2.1;have HM:=KL hm;have HO:=KL hown;have HB1:Hid (Below w.heap.size w w1):=KS (Zb:Below w.heap.size w _) (hb1.mono (by simp;omega));have hz1:=hb1.size;have x0:w1.cell? ⟨q,0,none⟩=some (.int .i64 now):=ae hqb 0;have x1:w1.cell? ⟨q,1,none⟩=some vl:=ae hqb 1;have x2:w1.frozen? ⟨q,0,none⟩=false:=az hqb 0;simp at hq hz1;have y0:w1.cell? ⟨w.heap.size+1,0,none⟩=some (.int .i64 0):=ah hb1 (by go_simp) (by simp);have y1:w1.cell? ⟨w.heap.size+1,1,none⟩=some (.slice none 0 0):=ah hb1 (by go_simp) (by simp);have y2:w1.cell? ⟨w.heap.size,0,none⟩=some (.int .i64 now):=ah hb1 (by go_simp) (by simp;omega);have f0:∀ n,w1.frozen? ⟨w.heap.size+1,n,none⟩=false:=fun n=>(hb1.frozen (p:=⟨w.heap.size+1,n,none⟩) (by simp)).trans (by go_simp);have HLn:=KL h25;rcases fF HO.out.2.1 with ⟨_,h00⟩|⟨g0,cv,rfl,_⟩
  ·omega
  have hg0:=HO.out.2.1.lt g0 rfl
  have HO:Hid (eP (q+1) w1 (.slice (some ⟨g0,0,none⟩) 25 cv) LL V):=by have:=HO.out;rw [h25] at this;exact this
  rw [h25] at x1;clear hm hqb hown hb1;have k1:w.heap.size<w1.heap.size:=by omega
  have k2:w.heap.size+1<w1.heap.size:=by omega
  have k3:¬ q=w.heap.size+1:=by omega
  have k4:¬ w.heap.size+1=q:=by omega
  by_cases hfull:now=1099511627776
  ·obtain ⟨rfl,rfl,rfl,rfl⟩:=HA.out.full HM.out hfull;subst hfull;go_wp2;refine LN (v:=.tuple #[.agg #[.int .i64 0,.slice none 0 0],.slice none 0 0,.int .i64 9]) ?_ rfl (WhAns3.nil ((HB1.out.setCell (by simp) _).setCell (by simp) _));simp [results,results72,go_sem, *]
  ·have hlt:now<1099511627776:=by omega
   obtain ⟨N,hNn⟩:=Lr h0;have HM:=KL (show WhMay (N:Int) LL by rw [<- hNn];exact HM.out);have HNn:=KL hNn;clear hNn;obtain ⟨n,hn1⟩:∃ n:Nat,(n:Int)=now+1:=⟨(now+1).toNat,by omega⟩
   have e1:IntKind.i64.wrap (now+1)=(n:Int):=by rw [IntKind.wrap_i64];omega
   have HN1:=KL hn1;have HLt:=KL hlt;have n0:(0:Int)<=(n:Int):=by omega
   have n1:n<=1099511627776:=by omega
   have HN:=KL n1;clear hn1 hlt n1 h1;go_wp2_with fail;obtain ⟨w2,hw2⟩:∃ w2,w2=w1.setCell ⟨q,0,none⟩ (.int .i64 (n:Int)):=⟨_,rfl⟩
   have z0:w2.cell? ⟨q,0,none⟩=some (.int .i64 (n:Int)):=by rw [hw2];go_simp
   have z1:w2.cell? ⟨q,1,none⟩=some (.slice (some ⟨g0,0,none⟩) 25 cv):=by rw [hw2];go_simp
   have HB2:Hid (Below q w1 w2):=by rw [hw2];exact KO (p:=⟨q,0,none⟩) (KM q w1) (KY q) _
   have HO2:Hid (eP (q+1) w2 (.slice (some ⟨g0,0,none⟩) 25 cv) LL V):=by
    rw [hw2];exact ee HO.out (fun b h1 h2=>KV _ _ _ _ (by simp;omega))
   have hz2:w1.heap.size=w2.heap.size:=by rw [hw2];simp
   rw [<- hw2];clear hw2 HO x0 x1 x2;refine Zr (fun w':World=>w'.cell? ⟨q,0,none⟩=some (.int .i64 (n:Int))) (fun hHeld=>?_);refine eD 0 ?_;refine eD 8 ?_;refine eY 16 ?_;refine Zt 20 ?_;refine Zd ?_;go_wp2_with fail;have hnn:=HN.out
   have e2:IntKind.i64.wrap (16+(IntKind.i64.wrap ((n:Int) / 64)).tmod 8)=((16+n / 64 % 8:Nat):Int):=by
    rw [IntKind.wrap_i64 ((n:Int) / 64),show (((n:Int) / 64+9223372036854775808) % 18446744073709551616 - 9223372036854775808)=((n / 64:Nat):Int) by omega,Int.tmod_eq_emod_of_nonneg (by omega),IntKind.wrap_i64];omega
   have e3:IntKind.i64.wrap (8+(IntKind.i64.wrap ((n:Int) / 8)).tmod 8)=((8+n / 8 % 8:Nat):Int):=by
    rw [IntKind.wrap_i64 ((n:Int) / 8),show (((n:Int) / 8+9223372036854775808) % 18446744073709551616 - 9223372036854775808)=((n / 8:Nat):Int) by omega,Int.tmod_eq_emod_of_nonneg (by omega),IntKind.wrap_i64];omega
   rw [e2,e3];clear e2 e3 hnn;obtain ⟨L1,hL1⟩:∃ L1,L1=16+n / 64 % 8:=⟨_,rfl⟩;obtain ⟨L2,hL2⟩:∃ L2,L2=8+n / 8 % 8:=⟨_,rfl⟩;rw [<- hL1,<- hL2];have l1:(L1:Int)<25:=by omega
   have l2:(L2:Int)<25:=by omega
   have HL1:=KL hL1;have HL2:=KL hL2;clear hL1 hL2;go_loopw [58] (fun i wr=>∃ k:Nat,k<=3/\i=.int .i64 k/\AvRel q w2 wr n (.slice (some ⟨g0,0,none⟩) 25 cv) (fZ n LL k)) (fun i _=>3 - (intOf i).toNat)
   case atStart=>exact ⟨0,by omega,rfl,KN (KM _ _),z0,z1,V,cB HO2.out (KN (KM _ _))⟩
   case round=>
    obtain ⟨k,hk,rfl,hB,z0,z1,V,hO⟩:=hrel;have HB:=KL hB;have HO:=KL hO;have hzr:=hB.size;clear hB hO HO2;rcases (show k=0\/k=1\/k=2\/k=3 by omega) with rfl|rfl|rfl|rfl
    ·rw [show ((0:Nat):Int)=0 from rfl];have hix:=fun W=>(idx3 512 24 64 L1 8 L2 W).1;go_wp2_with fail;obtain ⟨wf,hwf⟩:∃ wf,wf=wr.alloc (.cells #[.int .i64 512,.int .i64 24] 269):=⟨_,rfl⟩
     have b0:wf.cell? ⟨wr.heap.size,0,none⟩=some (.int .i64 512):=by rw [hwf];go_simp
     have b1:wf.cell? ⟨wr.heap.size,1,none⟩=some (.int .i64 24):=by rw [hwf];go_simp
     have hbf:Below wr.heap.size wr wf:=by rw [hwf];exact (KM _ _).alloc (KY _) _
     have hzf:wf.heap.size=wr.heap.size+1:=by rw [hwf];simp
     have z0:=ah hbf z0 (by omega);have z1:=ah hbf z1 (by omega);have HBf:=KL (HB.out.trans (hbf.mono (by omega)));have HOf:=KL (cB HO.out hbf);rw [<- hwf];clear hwf hbf HB HO hix
     have hmod:(n:Int).tmod 512=((n % 512:Nat):Int):=by rw [Int.tmod_eq_emod_of_nonneg (by omega)];omega
     have HMod:=KL hmod;clear hmod;by_cases hd:n % 512=0;rotate_left
     ·have HE:=KL (show fZ n LL 1=fZ n LL 0 by rw [Hk,if_neg hd])
      have hq1:((n:Int).tmod 512 != 0)=true:=by rw [HMod.out,bne_iff_ne];omega
      refine Zr (fun w':World=>w'.cell? ⟨q,0,none⟩=some (.int .i64 (n:Int))/\w'.cell? ⟨wr.heap.size,0,none⟩=some (.int .i64 512)) (fun hHeld=>?_);refine eD 0 ?_;refine Zt 8 ?_;refine Zd ?_;go_wp2_with fail;go_roundw
      case rel=>
       refine ⟨1,by omega,by go_num,HBf.out.trans (KN (KM _ _)),?_,?_,V,?_⟩
       ·exact z0
       ·exact z1
       ·rw [HE.out];exact cB HOf.out (KN (KM _ _))
      case measure=>simp [intOf]
     ·have hq1:((n:Int).tmod 512 != 0)=false:=by rw [HMod.out,bne_eq_false_iff_eq];omega
      refine Zr (fun w':World=>w'.cell? ⟨q,0,none⟩=some (.int .i64 (n:Int))/\w'.cell? ⟨wr.heap.size,0,none⟩=some (.int .i64 512)) (fun hHeld=>?_);refine eD 0 ?_;refine Zt 8 ?_;refine Zd ?_;clear hq1;obtain ⟨j,hj⟩:∃ j:Nat,j=24:=⟨_,rfl⟩
      have hj2:(24:Int)=(j:Int):=by rw [hj];try rfl
      have hj25:j<25:=by omega
      obtain ⟨M,hM⟩:∃ M,M=fZ n LL 0:=⟨_,rfl⟩;have HE:=KL (show fZ n LL 1=pR (n:Int) j M by rw [Hk,if_pos hd,hj,hM]);obtain ⟨s,hs⟩:=sq HM.out n 0;rw [<- hM] at hs HOf;have HLay:=KL hs;have hMl:=hs.1;rw [hj2] at b1;clear hM hs hj hj2 HMod hd;obtain ⟨hV,hro,hrw,hd4,hd5⟩:=HOf.out;rw [hMl] at hro;have l1:=hro.cellAt j (by omega)
      have hVj:V[j]?=some (V.getD j undef):=by rw [List.getD_eq_getElem?_getD,Lj (by omega)];rfl
      rw [hVj] at l1;have lf:=hro.frozenAt j;have hRx:=hrw j (by omega);obtain ⟨X,hX⟩:∃ X,X=M.getD j []:=⟨_,rfl⟩;obtain ⟨xv,hxv⟩:∃ xv,xv=V.getD j undef:=⟨_,rfl⟩
      have hfree:∀ b,xv.ownBlock=some b->b≠g0/\∀ i,i<25->((V.set j (.slice none 0 0)).getD i undef).ownBlock≠some b:=by
       exact Q33
      rw [<- hX,<- hxv] at hRx;rw [<- hxv] at l1;obtain ⟨ax,cx,rfl,_⟩:=aE hRx;have HX:=KL hX
      have hX2:X.length<=200:=by rw [hX];exact Lz (HLay.out.len hj25) HM.out.tot
      have HRx:=KL hRx;have HFree:=KL hfree;have HSet:=KL (iH (w':=wf.drew) (v':=.slice none 0 0) (L':=[]) (a:=j) HOf.out (by omega) (by rw [hMl]) (fun b hb hne=>rfl) (fun b hb=>by cases hb) (by simpa using LJ _ _ _ _));have j0:(0:Int)<=(j:Int):=by omega
      have j1:(j:Int)<(25:Int):=by omega
      have j2:(j:Int)<25:=by omega
      clear hV hro hrw hd4 hd5 hVj hRx hX hxv hfree;go_wp2_with fail;refine Zr (fun w':World=>w'.cell? ⟨q,1,none⟩=some (.slice (some ⟨g0,0,none⟩) 25 cv)/\w'.cell? ⟨wr.heap.size,1,none⟩=some (.int .i64 (j:Int))/\w'.cell? ⟨g0,j,none⟩=some (.slice ax X.length cx)) (fun hHeld=>?_);refine eD 0 ?_;refine dl 8 ?_;refine Zd ?_;go_wp2_with fail;refine Zr (fun w':World=>w'.cell? ⟨q,1,none⟩=some (.slice (some ⟨g0,0,none⟩) 25 cv)/\w'.cell? ⟨wr.heap.size,1,none⟩=some (.int .i64 (j:Int))) (fun hHeld=>?_);refine eD 0 ?_;refine Z1 8 (fun K hK=>?_);go_simp;refine Zk hK fun hHeld=>?_;clear hK K;refine Zd ?_;go_wp2_with fail;obtain ⟨ws,hws⟩:∃ ws,ws=(wf.setCell ⟨g0,j,none⟩ (.slice none 0 0)).drew.drew.drew:=⟨_,rfl⟩
      have z0:ws.cell? ⟨q,0,none⟩=some (.int .i64 (n:Int)):=by rw [hws];exact (aW (by omega)).trans z0
      have z1:ws.cell? ⟨q,1,none⟩=some (.slice (some ⟨g0,0,none⟩) 25 cv):=by rw [hws];exact (aW (by omega)).trans z1
      have HBs:Hid (Below q w2 ws):=by rw [hws];exact KN (KN (KN (KO (p:=⟨g0,j,none⟩) HBf.out (by show q<=g0;omega) _)))
      have HOs:Hid (eP (q+1) ws (.slice (some ⟨g0,0,none⟩) 25 cv) (M.set j []) (V.set j (.slice none 0 0))):=by rw [hws];exact ee HSet.out (fun b _ _=>rfl)
      have HRs:Hid (ws.ownsRow (q+1) 184 2 (.slice ax X.length cx) X.length (X.map Tm.cells).flatten):=by
       exact Q92
      have hzs:wf.heap.size=ws.heap.size:=by rw [hws];simp
      rw [<- hws];clear hws HSet HRx HOf HBf l1 lf b0 b1;go_loopw [89] (fun i wp=>∃ m:Nat,m<=X.length/\i=.int .i64 m/\AvIn q g0 w2 ws wp n cv (.slice ax X.length cx) (gj (n:Int) (M.set j []) (X.take m)) X) (fun i _=>X.length - (intOf i).toNat)
      case atStart=>exact ⟨0,La _,rfl,HBs.out,KY _,z0,z1,HRs.out,_,HOs.out,HFree.out⟩
      case round=>
       obtain ⟨m,hm,rfl,hB,hzp,z0,z1,hR,V2,hO,hF⟩:=hrel;have HB:=KL hB;have HO:=KL hO;have HR:=KL hR;have HF:=KL hF;clear hB hO hR hF HBs HOs HRs HFree;rcases (show m<X.length\/m=X.length by omega) with hml|rfl
       ·exact Q6
       ·have hge:¬ ((X.length:Nat):Int)<(X.length:Int):=by omega
        have HEq:=KL (show gj (n:Int) (M.set j []) (X.take X.length)=fZ n LL 1 by rw [HE.out,List.take_length];unfold pR;rw [HX.out]);rw [HEq.out] at HO;go_wp2_with fail;go_roundw
        case rel=>exact ⟨_,_,_,_,⟨1,by omega,rfl,HB.out,z0,z1,_,HO.out⟩,rfl,rfl,rfl,rfl⟩
        case measure=>simp [intOf]
    ·rw [show ((1:Nat):Int)=1 from rfl];have hix:=fun W=>(idx3 512 24 64 L1 8 L2 W).2.1;go_wp2_with fail;obtain ⟨wf,hwf⟩:∃ wf,wf=wr.alloc (.cells #[.int .i64 64,.int .i64 (L1:Int)] 269):=⟨_,rfl⟩
     have b0:wf.cell? ⟨wr.heap.size,0,none⟩=some (.int .i64 64):=by rw [hwf];go_simp
     have b1:wf.cell? ⟨wr.heap.size,1,none⟩=some (.int .i64 (L1:Int)):=by rw [hwf];go_simp
     have hbf:Below wr.heap.size wr wf:=by rw [hwf];exact (KM _ _).alloc (KY _) _
     have hzf:wf.heap.size=wr.heap.size+1:=by rw [hwf];simp
     have z0:=ah hbf z0 (by omega);have z1:=ah hbf z1 (by omega);have HBf:=KL (HB.out.trans (hbf.mono (by omega)));have HOf:=KL (cB HO.out hbf);rw [<- hwf];clear hwf hbf HB HO hix
     have hmod:(n:Int).tmod 64=((n % 64:Nat):Int):=by rw [Int.tmod_eq_emod_of_nonneg (by omega)];omega
     have HMod:=KL hmod;clear hmod;by_cases hd:n % 64=0;rotate_left
     ·have HE:=KL (show fZ n LL 2=fZ n LL 1 by rw [Hj,if_neg hd])
      have hq1:((n:Int).tmod 64 != 0)=true:=by rw [HMod.out,bne_iff_ne];omega
      refine Zr (fun w':World=>w'.cell? ⟨q,0,none⟩=some (.int .i64 (n:Int))/\w'.cell? ⟨wr.heap.size,0,none⟩=some (.int .i64 64)) (fun hHeld=>?_);refine eD 0 ?_;refine Zt 8 ?_;refine Zd ?_;go_wp2_with fail;go_roundw
      case rel=>
       refine ⟨2,by omega,by go_num,HBf.out.trans (KN (KM _ _)),?_,?_,V,?_⟩
       ·exact z0
       ·exact z1
       ·rw [HE.out];exact cB HOf.out (KN (KM _ _))
      case measure=>simp [intOf]
     ·have hq1:((n:Int).tmod 64 != 0)=false:=by rw [HMod.out,bne_eq_false_iff_eq];omega
      refine Zr (fun w':World=>w'.cell? ⟨q,0,none⟩=some (.int .i64 (n:Int))/\w'.cell? ⟨wr.heap.size,0,none⟩=some (.int .i64 64)) (fun hHeld=>?_);refine eD 0 ?_;refine Zt 8 ?_;refine Zd ?_;clear hq1;obtain ⟨j,hj⟩:∃ j:Nat,j=L1:=⟨_,rfl⟩
      have hj2:((L1:Int):Int)=(j:Int):=by rw [hj];try rfl
      have hj25:j<25:=by omega
      obtain ⟨M,hM⟩:∃ M,M=fZ n LL 1:=⟨_,rfl⟩;have HE:=KL (show fZ n LL 2=pR (n:Int) j M by rw [Hj,if_pos hd,hj,HL1.out,hM]);obtain ⟨s,hs⟩:=sq HM.out n 1;rw [<- hM] at hs HOf;have HLay:=KL hs;have hMl:=hs.1;rw [hj2] at b1;clear hM hs hj hj2 HMod hd;obtain ⟨hV,hro,hrw,hd4,hd5⟩:=HOf.out;rw [hMl] at hro;have l1:=hro.cellAt j (by omega)
      have hVj:V[j]?=some (V.getD j undef):=by rw [List.getD_eq_getElem?_getD,Lj (by omega)];rfl
      rw [hVj] at l1;have lf:=hro.frozenAt j;have hRx:=hrw j (by omega);obtain ⟨X,hX⟩:∃ X,X=M.getD j []:=⟨_,rfl⟩;obtain ⟨xv,hxv⟩:∃ xv,xv=V.getD j undef:=⟨_,rfl⟩
      have hfree:∀ b,xv.ownBlock=some b->b≠g0/\∀ i,i<25->((V.set j (.slice none 0 0)).getD i undef).ownBlock≠some b:=by
       exact Q33
      rw [<- hX,<- hxv] at hRx;rw [<- hxv] at l1;obtain ⟨ax,cx,rfl,_⟩:=aE hRx;have HX:=KL hX
      have hX2:X.length<=200:=by rw [hX];exact Lz (HLay.out.len hj25) HM.out.tot
      have HRx:=KL hRx;have HFree:=KL hfree;have HSet:=KL (iH (w':=wf.drew) (v':=.slice none 0 0) (L':=[]) (a:=j) HOf.out (by omega) (by rw [hMl]) (fun b hb hne=>rfl) (fun b hb=>by cases hb) (by simpa using LJ _ _ _ _));have j0:(0:Int)<=(j:Int):=by omega
      have j1:(j:Int)<(25:Int):=by omega
      have j2:(j:Int)<25:=by omega
      clear hV hro hrw hd4 hd5 hVj hRx hX hxv hfree;go_wp2_with fail;refine Zr (fun w':World=>w'.cell? ⟨q,1,none⟩=some (.slice (some ⟨g0,0,none⟩) 25 cv)/\w'.cell? ⟨wr.heap.size,1,none⟩=some (.int .i64 (j:Int))/\w'.cell? ⟨g0,j,none⟩=some (.slice ax X.length cx)) (fun hHeld=>?_);refine eD 0 ?_;refine dl 8 ?_;refine Zd ?_;go_wp2_with fail;refine Zr (fun w':World=>w'.cell? ⟨q,1,none⟩=some (.slice (some ⟨g0,0,none⟩) 25 cv)/\w'.cell? ⟨wr.heap.size,1,none⟩=some (.int .i64 (j:Int))) (fun hHeld=>?_);refine eD 0 ?_;refine Z1 8 (fun K hK=>?_);go_simp;refine Zk hK fun hHeld=>?_;clear hK K;refine Zd ?_;go_wp2_with fail;obtain ⟨ws,hws⟩:∃ ws,ws=(wf.setCell ⟨g0,j,none⟩ (.slice none 0 0)).drew.drew.drew:=⟨_,rfl⟩
      have z0:ws.cell? ⟨q,0,none⟩=some (.int .i64 (n:Int)):=by rw [hws];exact (aW (by omega)).trans z0
      have z1:ws.cell? ⟨q,1,none⟩=some (.slice (some ⟨g0,0,none⟩) 25 cv):=by rw [hws];exact (aW (by omega)).trans z1
      have HBs:Hid (Below q w2 ws):=by rw [hws];exact KN (KN (KN (KO (p:=⟨g0,j,none⟩) HBf.out (by show q<=g0;omega) _)))
      have HOs:Hid (eP (q+1) ws (.slice (some ⟨g0,0,none⟩) 25 cv) (M.set j []) (V.set j (.slice none 0 0))):=by rw [hws];exact ee HSet.out (fun b _ _=>rfl)
      have HRs:Hid (ws.ownsRow (q+1) 184 2 (.slice ax X.length cx) X.length (X.map Tm.cells).flatten):=by
       exact Q92
      have hzs:wf.heap.size=ws.heap.size:=by rw [hws];simp
      rw [<- hws];clear hws HSet HRx HOf HBf l1 lf b0 b1;go_loopw [89] (fun i wp=>∃ m:Nat,m<=X.length/\i=.int .i64 m/\AvIn q g0 w2 ws wp n cv (.slice ax X.length cx) (gj (n:Int) (M.set j []) (X.take m)) X) (fun i _=>X.length - (intOf i).toNat)
      case atStart=>exact ⟨0,La _,rfl,HBs.out,KY _,z0,z1,HRs.out,_,HOs.out,HFree.out⟩
      case round=>
       obtain ⟨m,hm,rfl,hB,hzp,z0,z1,hR,V2,hO,hF⟩:=hrel;have HB:=KL hB;have HO:=KL hO;have HR:=KL hR;have HF:=KL hF;clear hB hO hR hF HBs HOs HRs HFree;rcases (show m<X.length\/m=X.length by omega) with hml|rfl
       ·exact Q6
       ·have hge:¬ ((X.length:Nat):Int)<(X.length:Int):=by omega
        have HEq:=KL (show gj (n:Int) (M.set j []) (X.take X.length)=fZ n LL 2 by rw [HE.out,List.take_length];unfold pR;rw [HX.out]);rw [HEq.out] at HO;go_wp2_with fail;go_roundw
        case rel=>exact ⟨_,_,_,_,⟨2,by omega,rfl,HB.out,z0,z1,_,HO.out⟩,rfl,rfl,rfl,rfl⟩
        case measure=>simp [intOf]
    ·rw [show ((2:Nat):Int)=2 from rfl];have hix:=fun W=>(idx3 512 24 64 L1 8 L2 W).2.2;go_wp2_with fail;obtain ⟨wf,hwf⟩:∃ wf,wf=wr.alloc (.cells #[.int .i64 8,.int .i64 (L2:Int)] 269):=⟨_,rfl⟩
     have b0:wf.cell? ⟨wr.heap.size,0,none⟩=some (.int .i64 8):=by rw [hwf];go_simp
     have b1:wf.cell? ⟨wr.heap.size,1,none⟩=some (.int .i64 (L2:Int)):=by rw [hwf];go_simp
     have hbf:Below wr.heap.size wr wf:=by rw [hwf];exact (KM _ _).alloc (KY _) _
     have hzf:wf.heap.size=wr.heap.size+1:=by rw [hwf];simp
     have z0:=ah hbf z0 (by omega);have z1:=ah hbf z1 (by omega);have HBf:=KL (HB.out.trans (hbf.mono (by omega)));have HOf:=KL (cB HO.out hbf);rw [<- hwf];clear hwf hbf HB HO hix
     have hmod:(n:Int).tmod 8=((n % 8:Nat):Int):=by rw [Int.tmod_eq_emod_of_nonneg (by omega)];omega
     have HMod:=KL hmod;clear hmod;by_cases hd:n % 8=0;rotate_left
     ·have HE:=KL (show fZ n LL 3=fZ n LL 2 by rw [Hi,if_neg hd])
      have hq1:((n:Int).tmod 8 != 0)=true:=by rw [HMod.out,bne_iff_ne];omega
      refine Zr (fun w':World=>w'.cell? ⟨q,0,none⟩=some (.int .i64 (n:Int))/\w'.cell? ⟨wr.heap.size,0,none⟩=some (.int .i64 8)) (fun hHeld=>?_);refine eD 0 ?_;refine Zt 8 ?_;refine Zd ?_;go_wp2_with fail;go_roundw
      case rel=>
       refine ⟨3,by omega,by go_num,HBf.out.trans (KN (KM _ _)),?_,?_,V,?_⟩
       ·exact z0
       ·exact z1
       ·rw [HE.out];exact cB HOf.out (KN (KM _ _))
      case measure=>simp [intOf]
     ·have hq1:((n:Int).tmod 8 != 0)=false:=by rw [HMod.out,bne_eq_false_iff_eq];omega
      refine Zr (fun w':World=>w'.cell? ⟨q,0,none⟩=some (.int .i64 (n:Int))/\w'.cell? ⟨wr.heap.size,0,none⟩=some (.int .i64 8)) (fun hHeld=>?_);refine eD 0 ?_;refine Zt 8 ?_;refine Zd ?_;clear hq1;obtain ⟨j,hj⟩:∃ j:Nat,j=L2:=⟨_,rfl⟩
      have hj2:((L2:Int):Int)=(j:Int):=by rw [hj];try rfl
      have hj25:j<25:=by omega
      obtain ⟨M,hM⟩:∃ M,M=fZ n LL 2:=⟨_,rfl⟩;have HE:=KL (show fZ n LL 3=pR (n:Int) j M by rw [Hi,if_pos hd,hj,HL2.out,hM]);obtain ⟨s,hs⟩:=sq HM.out n 2;rw [<- hM] at hs HOf;have HLay:=KL hs;have hMl:=hs.1;rw [hj2] at b1;clear hM hs hj hj2 HMod hd;obtain ⟨hV,hro,hrw,hd4,hd5⟩:=HOf.out;rw [hMl] at hro;have l1:=hro.cellAt j (by omega)
      have hVj:V[j]?=some (V.getD j undef):=by rw [List.getD_eq_getElem?_getD,Lj (by omega)];rfl
      rw [hVj] at l1;have lf:=hro.frozenAt j;have hRx:=hrw j (by omega);obtain ⟨X,hX⟩:∃ X,X=M.getD j []:=⟨_,rfl⟩;obtain ⟨xv,hxv⟩:∃ xv,xv=V.getD j undef:=⟨_,rfl⟩
      have hfree:∀ b,xv.ownBlock=some b->b≠g0/\∀ i,i<25->((V.set j (.slice none 0 0)).getD i undef).ownBlock≠some b:=by
       exact Q33
      rw [<- hX,<- hxv] at hRx;rw [<- hxv] at l1;obtain ⟨ax,cx,rfl,_⟩:=aE hRx;have HX:=KL hX
      have hX2:X.length<=200:=by rw [hX];exact Lz (HLay.out.len hj25) HM.out.tot
      have HRx:=KL hRx;have HFree:=KL hfree;have HSet:=KL (iH (w':=wf.drew) (v':=.slice none 0 0) (L':=[]) (a:=j) HOf.out (by omega) (by rw [hMl]) (fun b hb hne=>rfl) (fun b hb=>by cases hb) (by simpa using LJ _ _ _ _));have j0:(0:Int)<=(j:Int):=by omega
      have j1:(j:Int)<(25:Int):=by omega
      have j2:(j:Int)<25:=by omega
      clear hV hro hrw hd4 hd5 hVj hRx hX hxv hfree;go_wp2_with fail;refine Zr (fun w':World=>w'.cell? ⟨q,1,none⟩=some (.slice (some ⟨g0,0,none⟩) 25 cv)/\w'.cell? ⟨wr.heap.size,1,none⟩=some (.int .i64 (j:Int))/\w'.cell? ⟨g0,j,none⟩=some (.slice ax X.length cx)) (fun hHeld=>?_);refine eD 0 ?_;refine dl 8 ?_;refine Zd ?_;go_wp2_with fail;refine Zr (fun w':World=>w'.cell? ⟨q,1,none⟩=some (.slice (some ⟨g0,0,none⟩) 25 cv)/\w'.cell? ⟨wr.heap.size,1,none⟩=some (.int .i64 (j:Int))) (fun hHeld=>?_);refine eD 0 ?_;refine Z1 8 (fun K hK=>?_);go_simp;refine Zk hK fun hHeld=>?_;clear hK K;refine Zd ?_;go_wp2_with fail;obtain ⟨ws,hws⟩:∃ ws,ws=(wf.setCell ⟨g0,j,none⟩ (.slice none 0 0)).drew.drew.drew:=⟨_,rfl⟩
      have z0:ws.cell? ⟨q,0,none⟩=some (.int .i64 (n:Int)):=by rw [hws];exact (aW (by omega)).trans z0
      have z1:ws.cell? ⟨q,1,none⟩=some (.slice (some ⟨g0,0,none⟩) 25 cv):=by rw [hws];exact (aW (by omega)).trans z1
      have HBs:Hid (Below q w2 ws):=by rw [hws];exact KN (KN (KN (KO (p:=⟨g0,j,none⟩) HBf.out (by show q<=g0;omega) _)))
      have HOs:Hid (eP (q+1) ws (.slice (some ⟨g0,0,none⟩) 25 cv) (M.set j []) (V.set j (.slice none 0 0))):=by rw [hws];exact ee HSet.out (fun b _ _=>rfl)
      have HRs:Hid (ws.ownsRow (q+1) 184 2 (.slice ax X.length cx) X.length (X.map Tm.cells).flatten):=by
       exact Q92
      have hzs:wf.heap.size=ws.heap.size:=by rw [hws];simp
      rw [<- hws];clear hws HSet HRx HOf HBf l1 lf b0 b1;go_loopw [89] (fun i wp=>∃ m:Nat,m<=X.length/\i=.int .i64 m/\AvIn q g0 w2 ws wp n cv (.slice ax X.length cx) (gj (n:Int) (M.set j []) (X.take m)) X) (fun i _=>X.length - (intOf i).toNat)
      case atStart=>exact ⟨0,La _,rfl,HBs.out,KY _,z0,z1,HRs.out,_,HOs.out,HFree.out⟩
      case round=>
       obtain ⟨m,hm,rfl,hB,hzp,z0,z1,hR,V2,hO,hF⟩:=hrel;have HB:=KL hB;have HO:=KL hO;have HR:=KL hR;have HF:=KL hF;clear hB hO hR hF HBs HOs HRs HFree;rcases (show m<X.length\/m=X.length by omega) with hml|rfl
       ·exact Q6
       ·have hge:¬ ((X.length:Nat):Int)<(X.length:Int):=by omega
        have HEq:=KL (show gj (n:Int) (M.set j []) (X.take X.length)=fZ n LL 3 by rw [HE.out,List.take_length];unfold pR;rw [HX.out]);rw [HEq.out] at HO;go_wp2_with fail;go_roundw
        case rel=>exact ⟨_,_,_,_,⟨3,by omega,rfl,HB.out,z0,z1,_,HO.out⟩,rfl,rfl,rfl,rfl⟩
        case measure=>simp [intOf]
    ·rw [show ((3:Nat):Int)=3 from rfl];obtain ⟨we,rfl⟩:∃ we,we=wr:=⟨_,rfl⟩
     have hall:fZ n LL 3=bN (n:Int) LL.flatten:=by
      have e:n=N+1:=by have h1:=HN1.out;have h2:=HNn.out;omega
      rw [e];exact Hh HM.out
     go_upto_region 21 with (fail);obtain ⟨I,hI⟩:∃ I,I=n % 8:=⟨_,rfl⟩;have e8:(n:Int) % 8=(I:Int):=by omega
     have i25:I<25:=by omega
     rw [e8];have HI:=KL hI;clear e8 hI;have i0:(0:Int)<=(I:Int):=by omega
     have i1:(I:Int)<25:=by omega
     obtain ⟨M,hM⟩:∃ M,M=bN (n:Int) LL.flatten:=⟨_,rfl⟩;rw [hall,<- hM] at HO;clear hall
     have hMl:M.length=25:=by rw [hM];exact dd _ _
     have HMe:=KL hM;clear hM;obtain ⟨hV,hro,hrw,hd4,hd5⟩:=HO.out;rw [hMl] at hro;have l1:=hro.cellAt I (by omega)
     have hVj:V[I]?=some (V.getD I undef):=by rw [List.getD_eq_getElem?_getD,Lj (by omega)];rfl
     rw [hVj] at l1;have lf:=hro.frozenAt I;have hg1:=hro.lt g0 rfl;have hRx:=hrw I (by omega);obtain ⟨X,hX⟩:∃ X,X=M.getD I []:=⟨_,rfl⟩;obtain ⟨xv,hxv⟩:∃ xv,xv=V.getD I undef:=⟨_,rfl⟩;have hXE:=(JJ (n:=n) (show n=N+1 by have h1:=HN1.out;have h2:=HNn.out;omega) HM.out)
     have hX2:X.length<=200:=by
      rw [hX,HMe.out,HI.out,hXE.2,(dp _).length_eq];exact Lz (List.length_filter_le _ _) HM.out.tot
     have HXE:=KL hXE;rw [<- hX,<- hxv] at hRx;rw [<- hxv] at l1;obtain ⟨ax,cx,rfl,_⟩:=aE hRx;have HX:=KL hX;have RX:=KL (aG hRx (by rw [Lh]) (ir _)).1;obtain ⟨_,_,e0,_,_,_,pt⟩:=aO Tm.zero RX.out;injection e0 with e01 _ e03;subst e01;subst e03;have PT:=KL pt;obtain ⟨j0,hj,hj0,hj1,hj2⟩:=info_parts Jf;clear hV hro hrw hd4 hd5 hVj hRx hX hxv pt hXE;go_wp2_with fail;go_loopw [12,113] (fun o i wp=>∃ m:Nat,m<=X.length/\i=.int .i64 m/\Below we.heap.size we wp/\wp.ownsRow we.heap.size 3 1 o m ((X.take m).map fun t=>Value.int .i64 t.id)) (fun _ i _=>X.length - (intOf i).toNat)
     case atStart=>exact ⟨0,La _,rfl,KM _ _,by simpa using LJ _ _ _ _⟩
     case round=>
      obtain ⟨m,hm,rfl,hB,hO2⟩:=hrel;have HBi:=KL hB;have HOo:=KL hO2;have hz5:=hB.size;obtain ⟨ao,co,rfl,_⟩:=aE hO2;rcases (show m<X.length\/m=X.length by omega) with hml|rfl
      ·have hml':(m:Int)<(X.length:Int):=by omega
       have p0:(0:Int)<=(m:Int):=by omega
       obtain ⟨bx,ox,rfl,hbx,q1⟩:=PT.out (by intro h;rw [h] at hml;simp at hml);obtain ⟨t,ht⟩:∃ t,t=X.getD m Tm.zero:=⟨_,rfl⟩;have d0:=q1 m 0 hml (by omega);have d1:=q1 m 1 hml (by omega);rw [<- ht] at d0 d1;have HTk:=KL (uy ht hml);obtain ⟨t0,t1⟩:=t;simp only [Tm.cells,Lb,Lc,Nat.add_zero] at d0 d1;have d0:=ah hB d0 hbx;have d1:=ah hB d1 hbx;clear ht q1 hB hO2;go_wp2_with (at_builtin;go_loud (refine wpList_append_own _ rfl _ _ 124 rfl we.heap.size 3 j0 (.int .i64 0) 1 8 underlying124 hj hj0 hj1 hj2 rfl (by decide) _ _ _ rfl (World.ownsRow.alloc (World.ownsRow.alloc HOo.out _) _) ⟨wr.heap.size+1,0,none⟩ 1 1 [.int .i64 t1] rfl rfl ?c0 ?c1 ?c2 ?c3 ?c4 ?_))
       case c0=>exact fO (by simp) _ _
       case c1=>intro u hu;obtain rfl:=List.mem_singleton.1 hu;rfl
       case c2=>unfold maxLen;omega
       case c3=>omega
       case c4=>simp;omega
       intro v6 w6 hown6 hgr6 _;have hb6:=cP (B:=we.heap.size) (((KM wr.heap.size wr).alloc (KY _) _).alloc (by simp) _) (by omega) HOo.out hgr6;have HB6:=KL (HBi.out.trans hb6)
       have HO6:Hid (w6.ownsRow we.heap.size 3 1 v6 (m+1) ((X.take (m+1)).map fun t=>Value.int .i64 t.id)):=by
        show World.ownsRow _ _ _ _ _ _ _
        rw [HTk.out,LG];simpa using hown6
       obtain ⟨a6,c6,rfl,_⟩:=aE hown6;clear hown6 hgr6 hb6 HOo HBi;go_wp2_with fail;go_roundw
       case rel=>exact ⟨m+1,by omega,by go_num,HB6.out,HO6.out⟩
       case measure=>simp [intOf];omega
      ·have hge:¬ ((X.length:Nat):Int)<(X.length:Int):=by omega
       have z0:=ah hB z0 (by omega);have z1:=ah hB z1 (by omega);have l1:=ah hB l1 (by omega);have lf:wr.frozen? ⟨g0,I,none⟩=false:=(hB.frozen (p:=⟨g0,I,none⟩) (by show g0<_;omega)).trans lf;have hBq:=HB.out.size;have HBw:=KL (HB.out.trans (HBi.out.mono (by omega)));have HOw:=KL (cB HO.out HBi.out);have HBx:=KL (HB2.out.trans HBw.out);have y0:wr.cell? ⟨w.heap.size+1,0,none⟩=some (.int .i64 0):=(HBx.out.cell (p:=⟨w.heap.size+1,0,none⟩) (by show w.heap.size+1<q;omega)).trans y0;have y1:wr.cell? ⟨w.heap.size+1,1,none⟩=some (.slice none 0 0):=(HBx.out.cell (p:=⟨w.heap.size+1,1,none⟩) (by show w.heap.size+1<q;omega)).trans y1;have f0:∀ n,wr.frozen? ⟨w.heap.size+1,n,none⟩=false:=fun n=>(HBx.out.frozen (p:=⟨w.heap.size+1,n,none⟩) (by show w.heap.size+1<q;omega)).trans (f0 n);have g1:¬ q=g0:=by omega
       have g2:¬ w.heap.size+1=g0:=by omega
       have g3:¬ g0=w.heap.size+1:=by omega
       clear hB hO2;go_wp2_with fail;obtain ⟨e1,e2,e3,e4⟩:=HA.out.yes (by rw [HNn.out];exact HM.out) HLt.out;rw [<- HN1.out] at e1 e2 e3;rw [<- HXE.out.1,<- HI.out,<- HMe.out] at e2;rw [<- HXE.out.2,<- HI.out,<- HMe.out,<- HX.out] at e3;rw [List.take_length] at HOo;have HSet:=KL (iH (w':=wr) (v':=.slice none 0 0) (L':=[]) (a:=I) HOw.out (by omega) (by rw [hMl]) (fun b hb hne=>rfl) (fun b hb=>by cases hb) (by simpa using LJ _ _ _ _));have hoo:∀ b,(Value.slice ao X.length co).ownBlock=some b->we.heap.size<=b/\b<wr.heap.size:=fun b hb=>HOo.out.lt b hb;subst e1 e2 e3 e4;refine LN (v:=.tuple #[.agg #[.int .i64 (n:Int),.slice (some ⟨g0,0,none⟩) 25 cv],.slice ao X.length co,.int .i64 0]) ?_ rfl ⟨_,_,rfl,?_,?_,?_⟩
       ·simp [results,results72,go_sem, *]
       ·refine mN (gM (ee HSet.out fun b h1 h2=>?_)) (B:=q+1) (by omega);rw [KV _ _ _ _ (by show b≠w.heap.size+1;omega),KV _ _ _ _ (by show b≠w.heap.size+1;omega)]
       ·refine aJ (aG (base:=we.heap.size) (e:=3) (n:=X.length) (aZ (w:=wr) (by rw [List.map_map];show wr.ownsRow _ _ _ _ _ (X.map fun t=>[Value.int .i64 t.id]).flatten;rw [flat1];exact HOo.out) (fun b hb=>?_)) (by simp) (by simp)) (by omega);have:=hoo b hb;rw [KV _ _ _ _ (by show b≠w.heap.size+1;omega),KV _ _ _ _ (by show b≠w.heap.size+1;omega),KV _ _ _ _ (by show b≠g0;omega)]
       ·have hb0:Below w.heap.size w wr:=HB1.out.trans (HBx.out.mono (by omega));exact ((hb0.setCell (p:=⟨g0,I,none⟩) (by show w.heap.size<=g0;omega) _).setCell (p:=⟨w.heap.size+1,0,none⟩) (by show w.heap.size<=w.heap.size+1;omega) _).setCell (p:=⟨w.heap.size+1,1,none⟩) (by show w.heap.size<=w.heap.size+1;omega) _
end
end Go.Proofs.YtennppmadmgfoaaGreatDoor
