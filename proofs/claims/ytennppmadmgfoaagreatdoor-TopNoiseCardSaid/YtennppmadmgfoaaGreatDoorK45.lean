/- Texts of the row's proof. Conditions: none. -/
import Derived.Deep.DeepCutAuto
import Derived.Test.YtennppmadmgfoaaGreatDoorK37
import Derived.Test.YtennppmadmgfoaaGreatDoorK44
namespace Go.Proofs.YtennppmadmgfoaaGreatDoor
open Proofs.Tryz
set_option maxRecDepth 100000
set_option maxHeartbeats 8000000
section
open Go.RowKit
def Dd.cells (d:Dd):List Value:=[.int .i64 d.kind,.int .i64 d.a,.int .i64 d.b,.int .i64 d.c]
theorem mG (e:Ev):(Ev.cells e).toArray.all (·.oneCell')=true:=by simp [Ev.cells,Value.oneCell']
theorem ff (e:Ev):(prog.info? 61).map (·.size)=some (Ev.cells e).toArray.size:=by show _=some 8;kernel_rfl
def Kb (n:Int):Prop:=-9223372036854775808<=n/\n<=9223372036854775807
def Dd.ok (d:Dd):Prop:=Kb d.kind/\Kb d.a/\Kb d.b/\Kb d.c
theorem zw {B p:Nat} {w:World} {c:Cf} {P:mc} {VL:Vs} {MS:List Ms} {vs vg:Value} (h:PG B p w c P VL MS vs vg) (aA:P.given.length<=200000) (d:Dd) (hd:Dd.ok d) :
  Calls prog 12 #[.pointer (some ⟨p,0,none⟩),.agg (Dd.cells d).toArray] w fun e w'=>e=.returned (.agg (Ev.cells (Kt P.given d)).toArray)/\Below w.heap.size w w':=by
 obtain ⟨dk,z,E,J⟩:=d
 obtain ⟨⟨k0,k1⟩,⟨a0,a1⟩,⟨b0,b1⟩,⟨c0,c1⟩⟩:=hd
 simp only at k0 k1 a0 a1 b0 b1 c0 c1
 have ax:=a0
 have ay:=a1
 obtain ⟨ag,cg,rfl,_⟩:=aE h.og
 have hp:=lt_of_block h.bk
 have au:=(aG (L:=P.given.map Hd.cells) h.og (by simp) (by intro c hc;obtain ⟨x,_,rfl⟩:=LH.1 hc;rfl)).1
 have ak:w.cell? ⟨p,43,none⟩=some (.slice ag P.given.length cg):=by rw [ae h.bk 43];rfl
 have HR:=KL au
 have HX:=KL ak
 obtain ⟨G,hG⟩:∃ G,G=P.given:=⟨_,rfl⟩
 rw [<- hG] at HR HX aA ⊢
 clear h au ak hG
 unfold Dd.cells
 go_in
 go_wp2_with fail
 refine bA _ (fun wb a8=>?_)
 have an:Below w.heap.size w wb:=by rw [a8];exact ((KM _ _).alloc (KY _) _).alloc (by simp) _
 have ad:wb.heap.size=w.heap.size+2:=by rw [a8];simp
 have U:wb.heap[w.heap.size]?=some (.cells (Dd.cells ⟨dk,z,E,J⟩).toArray 84 (0,0)):=by rw [a8];exact (KQ _ _ _ (by simp)).trans (aB _ rfl)
 have a3:wb.heap[w.heap.size+1]?=some (.cells (Ev.cells Ev.zero).toArray 61 (0,0)):=by rw [a8];exact aB _ (by simp)
 have y1:wb.cell? ⟨w.heap.size,1,none⟩=some (.int .i64 z):=by rw [ae U 1];rfl
 have y2:wb.cell? ⟨w.heap.size,2,none⟩=some (.int .i64 E):=by rw [ae U 2];rfl
 have HD:=KL U
 have HE:=KL a3
 have HB:=KL an
 clear a8 an U a3
 have p1:=cZ z (m:=8) (by decide)
 have p2:=cZ E (m:=3) (by decide)
 refine join1 (P:=?jP1) (F:=(fun w1:World=>Below wb.heap.size wb w1/\w1.heap[w.heap.size+2]?=some (.cells (Hd.cells ⟨pk z 8,pk E 3⟩).toArray 111 (0,0)))) (fun aL=>?jm1) ?jr1
 case jm1=>
  refine Zr (fun w':World=>w'.cell? ⟨w.heap.size,1,none⟩=some (.int .i64 z)/\w'.cell? ⟨w.heap.size,2,none⟩=some (.int .i64 E)) (fun I=>?_);refine dl 0 ?_;refine dl 3 ?_;refine Z2 2 7 (fun K hK=>?_) (fun K hK=>?_);(focus (go_simp;(go_at_call 26;refine (bO _ _ _ (by omega) (by omega) (by omega) (by omega)).mono ?_;rintro e w1 ⟨rfl,rfl⟩);(try go_wp2_with fail);refine Zk hK fun I=>?_;clear hK K;refine Z2 5 7 (fun K hK=>?_) (fun K hK=>?_);(focus (go_simp;(go_at_call 26;refine (bO _ _ _ (by omega) (by omega) (by omega) (by omega)).mono ?_;rintro e w1 ⟨rfl,rfl⟩);(try go_wp2_with fail);refine Zk hK fun I=>?_;clear hK K;refine Zt 6 ?_;refine Z1 7 (fun K hK=>?_);go_simp;refine Zk hK fun I=>?_;clear hK K));rotate_left 1;(focus (go_simp;refine Zk hK fun I=>?_;clear hK K;refine Z1 5 (fun K hK=>?_);go_simp;(go_at_call 26;refine (bO _ _ _ (by omega) (by omega) (by omega) (by omega)).mono ?_;rintro e w1 ⟨rfl,rfl⟩);(try go_wp2_with fail);refine Zk hK fun I=>?_;clear hK K;refine Zt 6 ?_));rotate_left 1));rotate_left 2;(focus (go_simp;refine Zk hK fun I=>?_;clear hK K;refine Z1 2 (fun K hK=>?_);go_simp;(go_at_call 26;refine (bO _ _ _ (by omega) (by omega) (by omega) (by omega)).mono ?_;rintro e w1 ⟨rfl,rfl⟩);(try go_wp2_with fail);refine Zk hK fun I=>?_;clear hK K;refine Z1 5 (fun K hK=>?_);go_simp;(go_at_call 26;refine (bO _ _ _ (by omega) (by omega) (by omega) (by omega)).mono ?_;rintro e w1 ⟨rfl,rfl⟩);(try go_wp2_with fail);refine Zk hK fun I=>?_;clear hK K;refine Zt 6 ?_));rotate_left 1;(all_goals (refine Z1 8 (fun K hK=>?_);go_simp;refine Zk hK fun I=>?_;clear hK K));(all_goals refine Zd ?_)
  all_goals
   refine bA _ (fun wz av=>?_)
   refine aL wz ⟨?_,?_⟩
   ·rw [av];exact Zb
   ·rw [av,<- ad];exact cO wb _
 case jr1=>
  rintro w1 ⟨hb1,ar⟩;have aa:=HB.out.trans (hb1.mono HB.out.size);have ak:w1.cell? ⟨p,43,none⟩=some (.slice ag G.length cg):=ah aa HX.out hp;have U:=aj hb1 HD.out (lt_of_block HD.out);have a3:=aj hb1 HE.out (lt_of_block HE.out)
  have y0:w1.cell? ⟨w.heap.size,0,none⟩=some (.int .i64 dk):=by rw [ae U 0];rfl
  have y1:w1.cell? ⟨w.heap.size,1,none⟩=some (.int .i64 z):=by rw [ae U 1];rfl
  have y2:w1.cell? ⟨w.heap.size,2,none⟩=some (.int .i64 E):=by rw [ae U 2];rfl
  have y3:w1.cell? ⟨w.heap.size,3,none⟩=some (.int .i64 J):=by rw [ae U 3];rfl
  have p3:=cZ J (m:=9) (by decide);obtain ⟨q,hq⟩:∃ q:Bool,q=decide (0<G.length/\0<pk J 9):=⟨_,rfl⟩;have HQ:=KL hq;have aT:=KL U;have b8:=KL a3;have H1:=KL ar;have a9:=KL hb1;have al:=KL ad
  have bf:p<w1.heap.size:=by have:=aa.size;omega
  clear hq U a3 ar hb1 aa ad;go_upto_region 2 with fail
  go_cut [25] from 14 to 25 (fun v w'=>v=.bool q/\w'=w1)
  case first=>
   by_cases h1:0<G.length
   ·have g1:(0:Int)<(G.length:Int):=by omega
    have d1:decide ((0:Int)<(G.length:Int))=true:=by simpa using h1
    by_cases h2:0<pk J 9
    ·have d2:decide (0<pk J 9)=true:=by simpa using h2
     obtain rfl:q=true:=by rw [HQ.out];simp [h1,h2]
     exact Q50
    ·have d2:decide (0<pk J 9)=false:=by simpa using h2
     obtain rfl:q=false:=by rw [HQ.out];simp [h2]
     exact Q50
   ·have g1:¬ (0:Int)<(G.length:Int):=by omega
    have d1:decide ((0:Int)<(G.length:Int))=false:=by simpa using h1
    obtain rfl:q=false:=by rw [HQ.out];simp [h1]
    exact Q50
  case rest=>
   obtain ⟨rfl,aH⟩:=hcut;obtain rfl:w1=wc:=aH.symm;go_upto_if 25 with fail
   go_cut [] from 26 to 47 (fun w'=>Below wb.heap.size wb w'/\w'.heap[w.heap.size+2]?=some (.cells (Hd.cells (I8 G ⟨dk,z,E,J⟩)).toArray 111 (0,0)))
   case first=>
    cases q with
    | false=>
     go_wp2_with fail;go_meet
     case rel=>
      refine ⟨a9.out,H1.out.trans ?_⟩;have h1:=of_decide_eq_false HQ.out.symm;unfold I8;rw [if_neg h1]
    | true=>
     have h1:=of_decide_eq_true HQ.out.symm;have hG:=h1.1;have ba:(1:Int)<=(G.length:Int):=by omega
     have bb:(G.length:Int)<=200000:=by omega
     obtain ⟨m,hm⟩:∃ m:Nat,m=min G.length 8:=⟨_,rfl⟩;have pm:=cZ z (m:=(m:Int)) (by omega);obtain ⟨M,hM⟩:∃ M,M=pk z (m:Int):=⟨_,rfl⟩;rw [<- hM] at pm;obtain ⟨i,hi⟩:∃ i:Nat,i=G.length - 1 - M.toNat:=⟨_,rfl⟩;have a7:i<G.length:=by omega
     have aF:(G.length:Int) - 1 - M=(i:Int):=by omega
     have ac:I8 G ⟨dk,z,E,J⟩=G.getD i ⟨0,0⟩:=by unfold I8;rw [if_pos h1,hi,hM,hm]
     obtain ⟨_,_,e1,_,_,_,q1⟩:=HR.out;simp only [Value.slice.injEq,Lh] at e1;obtain ⟨rfl,-,rfl⟩:=e1;obtain ⟨bg,og,rfl,ao,q3⟩:=q1 (by intro e;have:=congrArg List.length e;simp at this;rw [this] at a7;simp at a7);have af:=(HB.out.trans (a9.out.mono HB.out.size));have a0:=(af.cell (p:=⟨bg,og+i*2+0,none⟩) ao).trans (q3 i 0 (by simpa using a7) (by omega));have a1:=(af.cell (p:=⟨bg,og+i*2+1,none⟩) ao).trans (q3 i 1 (by simpa using a7) (by omega));rw [kP Hd.cells a7 ⟨0,0⟩] at a0 a1;obtain ⟨x,hx⟩:∃ x,x=G.getD i ⟨0,0⟩:=⟨_,rfl⟩;rw [<- hx] at a0 a1 ac;obtain ⟨W,Y⟩:=x;have aw:=KL ac;simp only [Hd.cells,Lb,Lc,Nat.add_zero] at a0 a1;have bk:w.heap.size+2<w1.heap.size:=lt_of_block H1.out;have bn:¬ p=w.heap.size+2:=by omega
     have bm:¬ bg=w.heap.size+2:=by omega
     have bc:(i:Int)<(G.length:Int):=by omega
     have bp:(0:Int)<=(i:Int):=by omega
     have bu:∀ n,w1.frozen? ⟨w.heap.size+2,n,none⟩=false:=fun n=>az H1.out n
     have bv:w1.cell? ⟨w.heap.size+2,0,none⟩=some (.int .i64 (pk z 8)):=by rw [ae H1.out 0];rfl
     have bw:w1.cell? ⟨w.heap.size+2,1,none⟩=some (.int .i64 (pk E 3)):=by rw [ae H1.out 1];rfl
     have HM:=KL (show pk z (min (G.length:Int) 8)=M by rw [hM];congr 1;omega);have m0:(0:Int)<(m:Int):=by omega
     have m1:(m:Int)<=8:=by omega
     have bd:m=G.length/\G.length<=8\/m=8/\8<=G.length:=by omega
     have bj:IntKind.i64.wrap (IntKind.i64.wrap ((G.length:Int) - 1) - M)=(i:Int):=by rw [LK ((G.length:Int) - 1) (by omega),LK _ (by omega)];exact aF
     clear hm hM hi ac hx q1 q3 af h1;go_wp2_with fail;refine Zr (fun w':World=>w'.cell? ⟨p,43,none⟩=some (.slice (some ⟨bg,og,none⟩) G.length cg)/\w'.cell? ⟨w.heap.size,1,none⟩=some (.int .i64 z)/\w'.cell? ⟨bg,og+i*2,none⟩=some (.int .i64 W)/\w'.cell? ⟨bg,og+i*2+1,none⟩=some (.int .i64 Y)) (fun I=>?_);refine eD 0 ?_;refine eD 8 ?_;refine dl 16 ?_;refine Z1 18 (fun K hK=>?_);go_simp;(go_at_call 26;refine (bO z (min (G.length:Int) 8) _ ax ay (by omega) (by omega)).mono ?_;rw [HM.out];rintro e w1 ⟨rfl,rfl⟩);(try go_wp2_with fail);refine Zk hK fun I=>?_;clear hK K;refine dl 19 ?_;refine Zt 21 ?_;refine Z1 22 (fun K hK=>?_);go_simp;refine Zk hK fun I=>?_;clear hK K;refine Zd ?_;go_wp2_with fail;go_meet
     case rel=>
      refine ⟨?_,?_⟩
      ·have bi:=al.out;exact ((a9.out.setCell (by simp;omega) _).setCell (by simp;omega) _).drew
      ·rw [aw.out];exact aR (aR H1.out _) _
   case rest=>
    obtain ⟨hb3,a6⟩:=hcut;have am:=HB.out.trans (hb3.mono HB.out.size);have U:=aj hb3 HD.out (lt_of_block HD.out);have a3:=aj hb3 HE.out (lt_of_block HE.out)
    have y0:wc.cell? ⟨w.heap.size,0,none⟩=some (.int .i64 dk):=by rw [ae U 0];rfl
    have y1:wc.cell? ⟨w.heap.size,1,none⟩=some (.int .i64 z):=by rw [ae U 1];rfl
    have y2:wc.cell? ⟨w.heap.size,2,none⟩=some (.int .i64 E):=by rw [ae U 2];rfl
    have y3:wc.cell? ⟨w.heap.size,3,none⟩=some (.int .i64 J):=by rw [ae U 3];rfl
    obtain ⟨x,hx⟩:∃ x,x=I8 G ⟨dk,z,E,J⟩:=⟨_,rfl⟩;rw [<- hx] at a6;obtain ⟨W,Y⟩:=x
    have z0:wc.cell? ⟨w.heap.size+2,0,none⟩=some (.int .i64 W):=by rw [ae a6 0];rfl
    have z1:wc.cell? ⟨w.heap.size+2,1,none⟩=some (.int .i64 Y):=by rw [ae a6 1];rfl
    have bt:∀ n,wc.frozen? ⟨w.heap.size+1,n,none⟩=false:=fun n=>az a3 n;have bq:=cZ z (m:=100) (by decide);have bs:=cZ z (m:=30) (by decide);have q5:=cZ E (m:=5) (by decide);have q8:=cZ J (m:=8) (by decide);have q2:=cZ E (m:=2) (by decide);have br:=cZ dk (m:=20) (by decide);have HX:=KL hx;have Z:=KL a3;have aS:=KL hb3;have bh:w.heap.size+2<wc.heap.size:=lt_of_block a6;have b9:=al;obtain ⟨ev,ab⟩:∃ ev,ev=Kt G ⟨dk,z,E,J⟩:=⟨_,rfl⟩;have a5:=ab;unfold Kt at a5;simp only at a5;rw [<- hx] at a5;have HEq:=KL ab;have a4:=KL a5;have a2:=KL am;clear hx U a3 hb3 a6 ab a5 am p1 p2 p3;have w8:IntKind.i64.wrap (1+pk J 8)=1+pk J 8:=LK _ (by omega);by_cases n0:pk dk 20<6
    ·have HV:=KL (show ev=jh (pk z 100) by rw [a4.out,if_pos n0]);go_wp2_with (first|(refine LP rfl 61 (.tmp 4) (.tmp 57) rfl (w.heap.size+1) (Ev.cells (jh (pk z 100))).toArray rfl rfl 61 (Ev.cells Ev.zero).toArray Z.out (ff _) rfl (mG _) ?_)|(go_at_call 26;refine (bO _ _ _ (by omega) (by omega) (by omega) (by omega)).mono ?_;rintro e w1 ⟨rfl,rfl⟩));go_wp2_with fail;refine LN (v:=.agg (Ev.cells (jh (pk z 100))).toArray) (results_cell_row rfl _ _ (w.heap.size+1) 61 (Ev.cells (jh (pk z 100))).toArray (0,0) _ rfl (bB Z.out) underlying61 rfl (ff _)) rfl ⟨by rw [<- HEq.out,HV.out],(by first|exact aV a2.out (by omega)|exact aV a2.out.drew (by omega))⟩
    ·by_cases n1:pk dk 20=6
     ·have HV:=KL (show ev=ij 2 ⟨W,Y⟩ false by rw [a4.out,if_neg n0,if_pos n1]);go_wp2_with (first|(refine LP rfl 61 (.tmp 4) (.tmp 65) rfl (w.heap.size+1) (Ev.cells (ij 2 ⟨W,Y⟩ false)).toArray rfl rfl 61 (Ev.cells Ev.zero).toArray Z.out (ff _) rfl (mG _) ?_)|(go_at_call 26;refine (bO _ _ _ (by omega) (by omega) (by omega) (by omega)).mono ?_;rintro e w1 ⟨rfl,rfl⟩));go_wp2_with fail;refine LN (v:=.agg (Ev.cells (ij 2 ⟨W,Y⟩ false)).toArray) (results_cell_row rfl _ _ (w.heap.size+1) 61 (Ev.cells (ij 2 ⟨W,Y⟩ false)).toArray (0,0) _ rfl (bB Z.out) underlying61 rfl (ff _)) rfl ⟨by rw [<- HEq.out,HV.out],(by first|exact aV a2.out (by omega)|exact aV a2.out.drew (by omega))⟩
     ·by_cases n2:pk dk 20=7
      ·have HV:=KL (show ev=ij 3 ⟨W,Y⟩ false by rw [a4.out,if_neg n0,if_neg n1,if_pos n2]);go_wp2_with (first|(refine LP rfl 61 (.tmp 4) (.tmp 73) rfl (w.heap.size+1) (Ev.cells (ij 3 ⟨W,Y⟩ false)).toArray rfl rfl 61 (Ev.cells Ev.zero).toArray Z.out (ff _) rfl (mG _) ?_)|(go_at_call 26;refine (bO _ _ _ (by omega) (by omega) (by omega) (by omega)).mono ?_;rintro e w1 ⟨rfl,rfl⟩));go_wp2_with fail;refine LN (v:=.agg (Ev.cells (ij 3 ⟨W,Y⟩ false)).toArray) (results_cell_row rfl _ _ (w.heap.size+1) 61 (Ev.cells (ij 3 ⟨W,Y⟩ false)).toArray (0,0) _ rfl (bB Z.out) underlying61 rfl (ff _)) rfl ⟨by rw [<- HEq.out,HV.out],(by first|exact aV a2.out (by omega)|exact aV a2.out.drew (by omega))⟩
      ·by_cases n3:pk dk 20<12
       ·have HV:=KL (show ev=ij 4 ⟨W,Y⟩ (pk E 2 == 0) by rw [a4.out,if_neg n0,if_neg n1,if_neg n2,if_pos n3]);go_wp2_with (go_at_call 26;refine (bO _ _ _ (by omega) (by omega) (by omega) (by omega)).mono ?_;rintro e w1 ⟨rfl,rfl⟩);refine Zr (fun w':World=>w'.cell? ⟨w.heap.size+2,0,none⟩=some (.int .i64 W)/\w'.cell? ⟨w.heap.size+2,1,none⟩=some (.int .i64 Y)/\w'.cell? ⟨w.heap.size,2,none⟩=some (.int .i64 E)) (fun I=>?_) (by (try dsimp only);((try dsimp only);go_split_ands;(repeat' apply And.intro);all_goals (repeat (first|with_reducible assumption|(with_reducible refine cq ?_)|(refine bG ?_ (by omega))))));refine eY 0 ?_;refine dl 4 ?_;refine Z1 6 (fun K hK=>?_);go_simp;(go_at_call 26;refine (bO _ _ _ (by omega) (by omega) (by omega) (by omega)).mono ?_;rintro e w1 ⟨rfl,rfl⟩);(try go_wp2_with fail);refine Zk hK (hS:=by (try dsimp only);((try dsimp only);go_split_ands;(repeat' apply And.intro);all_goals (repeat (first|with_reducible assumption|(with_reducible refine cq ?_)|(refine bG ?_ (by omega)))))) fun I=>?_;clear hK K;refine dl 7 ?_;refine Z1 9 (fun K hK=>?_);rw [if_pos (by rfl)];refine LQ 61 (.tmp 4) (.tmp 85) rfl (w.heap.size+1) (Ev.cells (ij 4 ⟨W,Y⟩ (pk E 2 == 0))).toArray rfl rfl 61 (Ev.cells Ev.zero).toArray Z.out (ff _) rfl (mG _) ?_;refine Zk hK (hS:=by (try dsimp only);((try dsimp only);go_split_ands;(repeat' apply And.intro);all_goals (repeat (first|with_reducible assumption|(with_reducible refine cq ?_)|(refine bG ?_ (by omega)))))) fun I=>?_;clear hK K;refine Zd ?_
        all_goals (go_wp2_with fail;refine LN (v:=.agg (Ev.cells (ij 4 ⟨W,Y⟩ (pk E 2 == 0))).toArray) (results_cell_row rfl _ _ (w.heap.size+1) 61 (Ev.cells (ij 4 ⟨W,Y⟩ (pk E 2 == 0))).toArray (0,0) _ rfl (bB Z.out) underlying61 rfl (ff _)) rfl ⟨by rw [<- HEq.out,HV.out],(by first|exact aV a2.out (by omega)|exact aV a2.out.drew (by omega))⟩)
       ·by_cases n4:pk dk 20<14
        ·have HV:=KL (show ev=fB (pk z 30) (pk E 5) (1+pk J 8) by rw [a4.out,if_neg n0,if_neg n1,if_neg n2,if_neg n3,if_pos n4]);go_wp2_with (go_at_call 26;refine (bO _ _ _ (by omega) (by omega) (by omega) (by omega)).mono ?_;rintro e w1 ⟨rfl,rfl⟩);refine Zr (fun w':World=>w'.cell? ⟨w.heap.size,1,none⟩=some (.int .i64 z)/\w'.cell? ⟨w.heap.size,2,none⟩=some (.int .i64 E)/\w'.cell? ⟨w.heap.size,3,none⟩=some (.int .i64 J)) (fun I=>?_) (by (try dsimp only);((try dsimp only);go_split_ands;(repeat' apply And.intro);all_goals (repeat (first|with_reducible assumption|(with_reducible refine cq ?_)|(refine bG ?_ (by omega))))));refine dl 0 ?_;refine dl 3 ?_;refine dl 6 ?_;refine Z1 2 (fun K hK=>?_);go_simp;(go_at_call 26;refine (bO _ _ _ (by omega) (by omega) (by omega) (by omega)).mono ?_;rintro e w1 ⟨rfl,rfl⟩);(try go_wp2_with fail);refine Zk hK (hS:=by (try dsimp only);((try dsimp only);go_split_ands;(repeat' apply And.intro);all_goals (repeat (first|with_reducible assumption|(with_reducible refine cq ?_)|(refine bG ?_ (by omega)))))) fun I=>?_;clear hK K;refine Z1 5 (fun K hK=>?_);go_simp;(go_at_call 26;refine (bO _ _ _ (by omega) (by omega) (by omega) (by omega)).mono ?_;rintro e w1 ⟨rfl,rfl⟩);(try go_wp2_with fail);refine Zk hK (hS:=by (try dsimp only);((try dsimp only);go_split_ands;(repeat' apply And.intro);all_goals (repeat (first|with_reducible assumption|(with_reducible refine cq ?_)|(refine bG ?_ (by omega)))))) fun I=>?_;clear hK K;refine Z1 8 (fun K hK=>?_);go_simp;(go_at_call 26;refine (bO _ _ _ (by omega) (by omega) (by omega) (by omega)).mono ?_;rintro e w1 ⟨rfl,rfl⟩);(try go_wp2_with fail);refine Zk hK (hS:=by (try dsimp only);((try dsimp only);go_split_ands;(repeat' apply And.intro);all_goals (repeat (first|with_reducible assumption|(with_reducible refine cq ?_)|(refine bG ?_ (by omega)))))) fun I=>?_;clear hK K;refine dl 9 ?_;refine Z1 11 (fun K hK=>?_);rw [if_pos (by rfl)];refine LQ 61 (.tmp 4) (.tmp 99) rfl (w.heap.size+1) (Ev.cells (fB (pk z 30) (pk E 5) (1+pk J 8))).toArray rfl rfl 61 (Ev.cells Ev.zero).toArray Z.out (ff _) rfl (mG _) ?_;refine Zk hK (hS:=by (try dsimp only);((try dsimp only);go_split_ands;(repeat' apply And.intro);all_goals (repeat (first|with_reducible assumption|(with_reducible refine cq ?_)|(refine bG ?_ (by omega)))))) fun I=>?_;clear hK K;refine Zd ?_
         all_goals (go_wp2_with fail;refine LN (v:=.agg (Ev.cells (fB (pk z 30) (pk E 5) (1+pk J 8))).toArray) (results_cell_row rfl _ _ (w.heap.size+1) 61 (Ev.cells (fB (pk z 30) (pk E 5) (1+pk J 8))).toArray (0,0) _ rfl (bB Z.out) underlying61 rfl (ff _)) rfl ⟨by rw [<- HEq.out,HV.out],(by first|exact aV a2.out (by omega)|exact aV a2.out.drew (by omega))⟩)
        ·by_cases n5:pk dk 20=14
         ·have HV:=KL (show ev=lZ (pk z 30) (pk E 5) by rw [a4.out,if_neg n0,if_neg n1,if_neg n2,if_neg n3,if_neg n4,if_pos n5]);go_wp2_with (go_at_call 26;refine (bO _ _ _ (by omega) (by omega) (by omega) (by omega)).mono ?_;rintro e w1 ⟨rfl,rfl⟩);refine Zr (fun w':World=>w'.cell? ⟨w.heap.size,1,none⟩=some (.int .i64 z)/\w'.cell? ⟨w.heap.size,2,none⟩=some (.int .i64 E)/\w'.cell? ⟨w.heap.size,3,none⟩=some (.int .i64 J)) (fun I=>?_) (by (try dsimp only);((try dsimp only);go_split_ands;(repeat' apply And.intro);all_goals (repeat (first|with_reducible assumption|(with_reducible refine cq ?_)|(refine bG ?_ (by omega))))));refine dl 0 ?_;refine dl 3 ?_;refine Z1 2 (fun K hK=>?_);go_simp;(go_at_call 26;refine (bO _ _ _ (by omega) (by omega) (by omega) (by omega)).mono ?_;rintro e w1 ⟨rfl,rfl⟩);(try go_wp2_with fail);refine Zk hK (hS:=by (try dsimp only);((try dsimp only);go_split_ands;(repeat' apply And.intro);all_goals (repeat (first|with_reducible assumption|(with_reducible refine cq ?_)|(refine bG ?_ (by omega)))))) fun I=>?_;clear hK K;refine Z1 5 (fun K hK=>?_);go_simp;(go_at_call 26;refine (bO _ _ _ (by omega) (by omega) (by omega) (by omega)).mono ?_;rintro e w1 ⟨rfl,rfl⟩);(try go_wp2_with fail);refine Zk hK (hS:=by (try dsimp only);((try dsimp only);go_split_ands;(repeat' apply And.intro);all_goals (repeat (first|with_reducible assumption|(with_reducible refine cq ?_)|(refine bG ?_ (by omega)))))) fun I=>?_;clear hK K;refine Zt 6 ?_;refine Z1 7 (fun K hK=>?_);rw [if_pos (by rfl)];refine LQ 61 (.tmp 4) (.tmp 109) rfl (w.heap.size+1) (Ev.cells (lZ (pk z 30) (pk E 5))).toArray rfl rfl 61 (Ev.cells Ev.zero).toArray Z.out (ff _) rfl (mG _) ?_;refine Zk hK (hS:=by (try dsimp only);((try dsimp only);go_split_ands;(repeat' apply And.intro);all_goals (repeat (first|with_reducible assumption|(with_reducible refine cq ?_)|(refine bG ?_ (by omega)))))) fun I=>?_;clear hK K;refine Zd ?_
          all_goals (go_wp2_with fail;refine LN (v:=.agg (Ev.cells (lZ (pk z 30) (pk E 5))).toArray) (results_cell_row rfl _ _ (w.heap.size+1) 61 (Ev.cells (lZ (pk z 30) (pk E 5))).toArray (0,0) _ rfl (bB Z.out) underlying61 rfl (ff _)) rfl ⟨by rw [<- HEq.out,HV.out],(by first|exact aV a2.out (by omega)|exact aV a2.out.drew (by omega))⟩)
         ·have HV:=KL (show ev=ii by rw [a4.out,if_neg n0,if_neg n1,if_neg n2,if_neg n3,if_neg n4,if_neg n5]);go_wp2_with (first|(refine LP rfl 61 (.tmp 4) (.tmp 110) rfl (w.heap.size+1) (Ev.cells (ii)).toArray rfl rfl 61 (Ev.cells Ev.zero).toArray Z.out (ff _) rfl (mG _) ?_)|(go_at_call 26;refine (bO _ _ _ (by omega) (by omega) (by omega) (by omega)).mono ?_;rintro e w1 ⟨rfl,rfl⟩));go_wp2_with fail;refine LN (v:=.agg (Ev.cells (ii)).toArray) (results_cell_row rfl _ _ (w.heap.size+1) 61 (Ev.cells (ii)).toArray (0,0) _ rfl (bB Z.out) underlying61 rfl (ff _)) rfl ⟨by rw [<- HEq.out,HV.out],(by first|exact aV a2.out (by omega)|exact aV a2.out.drew (by omega))⟩
def begV (E h z:Value):Vs:=⟨E,.slice none 0 0,.slice none 0 0,.slice none 0 0,.slice none 0 0,h,z,List.replicate 12 (.slice none 0 0)⟩
theorem iF (K:Nat->Prop) (w:World) (sz:Nat):dj K w sz (.slice none 0 0) []:=⟨iG w sz,fun _ _ _ _ _ h=>absurd rfl h⟩
theorem nB {α:Type} {n i:Nat} (x d:α) (h:i<n):(List.replicate n x).getD i d=x:=by rw [aQ (by simpa using h),List.getElem_replicate]
theorem beg_wk {c:Cf} {w:World} {N:Nat} {K Y J:Value} (hN:c.flows.toNat=N) (ht:aK w 4 K ((ga N).map Sl.cells)) (hh:aK w 4 Y (iV 12)) (hl:aK w 1 J (vj 25)):WK (fun _=>True) w (dD c) (begV K Y J):=by
 have I:∀ {U:Nat} {W:Value} {L:List (List Value)},aK w U W L->dj (fun _=>True) w U W L:=fun Z=>⟨Z,fun _ _ _ _ _ _=>trivial⟩;refine ⟨⟨?_,iF _ _ _,iF _ _ _,iF _ _ _,?_,by simp [begV,dD],fun h E=>?_⟩,iF _ _ _,?_⟩
 ·show dj _ w 4 K ((ga c.flows.toNat).map Sl.cells)
  rw [hN];exact I ht
 ·refine ⟨List.replicate 25 (.slice none 0 0),by simp [dD],?_,fun h E=>?_⟩
  ·show dj _ w 1 J _
   rw [List.map_replicate];exact I hl
  ·have z:h<25:=by simpa [dD] using E
   show dj _ w 2 ((List.replicate 25 _).getD h undef) (((List.replicate 25 ([]:List Tm)).getD h []).map Tm.cells)
   rw [nB _ _ z,nB _ _ z];exact iF _ _ _
 ·have z:h<12:=by simpa [dD] using E
  show dj _ w 1 ((List.replicate 12 _).getD h undef) (cN ((List.replicate 12 Ht.zero).getD h Ht.zero).marks)
  rw [nB _ _ z,nB _ _ z];exact iF _ _ _
 ·exact I hh
theorem DU {B:Nat} {w:World} {c:Cf} {V:Vs} (J:B<=w.heap.size) (I:WK (fun _=>True) w (dD c) V):PG B w.heap.size (w.alloc (.cells (EO c (.slice none 0 0) (dD c) V (.slice none 0 0)).toArray 59 (0,0))) c ⟨[],dD c,[]⟩ V [] (.slice none 0 0) (.slice none 0 0):=by
 refine ⟨aB _ rfl,LJ _ _ _ _,LJ _ _ _ _,J,fun h z=>(by simp [Value.ownBlock] at z),fun h z=>(by simp [Value.ownBlock] at z),rfl,?_,fun U K=>absurd K (Nat.not_lt_zero U)⟩;refine (I.imp (K':=NP w.heap.size (.slice none 0 0) (.slice none 0 0)) (fun h E _=>⟨by omega,by simp [Value.ownBlock],by simp [Value.ownBlock]⟩)).keep (by simp) (fun h E _=>KQ _ _ _ E)
def BegP2 (w:World) (c:Cf) (e:Ending) (w':World):Prop:=∃ V,e=.returned (.tuple #[.agg (dz (dD c) V).toArray,.int .i64 0])/\WK (fun _=>True) w' (dD c) V/\Below w.heap.size w w'
theorem EF (c:Cf) (h:jC c) (w:World):Calls prog 10 #[.agg (Cf.cells c).toArray] w (BegP2 w c):=by
 obtain ⟨flows,a1,K,tries,a3,drain,idle,connect,a2,a0,J,I,E,ww,wf,wh⟩:=c
 have U:0<=flows:=by have:=h.1.2.2.1;simp only at this;omega
 obtain ⟨z,rfl⟩:=Lr U;refine (sO a1 K tries a3 drain idle connect a2 a0 J I E ww wf wh z w h).mono ?_;rintro e w' ⟨vt,vh,vl,rfl,ht,Y,Z,W⟩;exact ⟨begV vt vh vl,rfl,beg_wk (by simp) ht Y Z,W⟩
theorem GU (c:Cf) (X:Wd) (V:Vs):prog.built 59 [(0,.agg (Cf.cells c).toArray),(2,.agg (dz X V).toArray)]=some (EO c (.slice none 0 0) X V (.slice none 0 0)).toArray:=by kernel_rfl
theorem sE {P:Program} {z:Array Oper} {rest:List Oper} {o:Oper} {a:Act} {w:World} {Q:Exit->Act->World->Prop} (K:o.guard=none) (t:TypeId) (i j:Nat) (x y:Operand) (U:o.op=.build t #[(i,x),(j,y)])
  (u v:Value) (W:a.eval x=u) (hy:a.eval y=v) (arr:Array Value) (I:P.built t [(i,u),(j,v)]=some arr) (E:wpList P z Q rest (a.put o.dst (.agg arr)) w):wpList P z Q (o :: rest) a w:=by
 have h:P.built t (#[(i,x),(j,y)].map fun (i,x)=>(i,a.eval x)).toList=some arr:=by simp only [List.map_toArray,List.map_cons,List.map_nil,W,hy];exact I
 exact wpList_plain K fun _ J=>wp_build t _ U (by rw [h];rfl) (by rw [h];exact J _ _ E)
def JZ (w:World) (c:Cf) (L:List Dd) (most:Nat) (e:Ending) (w':World):Prop:=∃ p z h vs E,e=.returned (.tuple #[.pointer (some ⟨p,0,none⟩),.bool true])/\PG w.heap.size p w' c (iR (dD c) L most) z h vs E/\Below w.heap.size w w'
def PlR (B p:Nat) (w:World) (c:Cf) (P:mc) (wr:World):Prop:=Below B w wr/\∃ z h vs E,PG B p wr c P z h vs E
theorem Kj {w:World} (s:Su) (hs:SuI s) (L:List Dd) (hd:∀ d∈L,d.ok) (v:Value) (r:aK w 4 v (L.map Dd.cells)) (most:Nat) (hm:most<=1000):Calls prog 4 #[.agg (Su.cells s).toArray,v,.int .i64 (most:Int)] w (JZ w (JE s) L most):=by
 obtain ⟨a,cp,rfl,_⟩:=ap r;have af:=JD s;have HC:=KL (xy s hs);obtain ⟨h,hc⟩:∃ h,h=JE s:=⟨_,rfl⟩;rw [<- hc] at HC af ⊢;obtain ⟨Y,ax⟩:∃ Y,Y=(Su.cells s).toArray:=⟨_,rfl⟩;rw [<- ax] at HC ⊢;obtain ⟨CA,a5⟩:∃ CA,CA=(Cf.cells h).toArray:=⟨_,rfl⟩;rw [<- a5] at HC;have c7:=KL (show (prog.info? 24).map (·.size)=some Y.size by rw [ax];show _=some 16;kernel_rfl);have ao:=KL (show (prog.info? 36).map (·.size)=some CA.size by rw [a5];exact vu h);have c4:=KL (show CA.size=16 by rw [a5];rfl);have c3:=KL (show CA.all (·.oneCell')=true by rw [a5];exact Fc h);have a8:=KL a5;have HR:=KL r;have HD:=KL hd;have HF:=KL af
 have bw:(h.flows.toNat:Int)=h.flows/\h.flows.toNat<=40:=by have:=af.1.2.2;omega
 have c5:=KL bw;have HK:=KL (show (w.alloc (.cells Y 24 (0,0))).heap[w.heap.size]?=some (.cells Y 24 (0,0)) from aB _ rfl);have c2:=KL (show Below w.heap.size w (w.alloc (.cells Y 24 (0,0))) from (KM _ _).alloc (KY _) _);clear hs hd r af hc ax a5 bw;go_in;go_wp2_with (first|(refine LO rfl 24 (.tmp 3) rfl w.heap.size rfl 24 Y (0,0) _ HK.out underlying24 rfl c7.out ?_)|(go_at_call 9;refine (HC.out _).mono ?_;rintro Z w1 ⟨rfl,br⟩;have aA:=c2.out.trans (br.mono (by simp));have b7:=aA.size)|(refine LP rfl 36 (.tmp 8) (.tmp 17) rfl w1.heap.size CA rfl rfl 36 _ (aB _ rfl) ao.out (by rw [c4.out];rfl) c3.out ?_)|(refine LO rfl 36 (.tmp 8) rfl w1.heap.size rfl 36 CA (0,0) _ (bB (aB _ rfl)) underlying36 rfl ao.out ?_));refine dA _ (fun wb b5=>?_)
 have b1:wb.heap[w1.heap.size]?=some (.cells CA 36 (0,0)):=by rw [b5];exact bB (aB _ rfl)
 have bt:Below w.heap.size w wb:=by rw [b5];exact aV (aA.alloc b7 _) b7
 have bi:=KL b1;have an:=KL bt;have bC:=lt_of_block b1;clear b5 b1 bt br aA;rw [a8.out];refine (EF h HF.out wb).mono ?_;rintro Z w2 ⟨V,rfl,b0,a7⟩;rw [<- a8.out];obtain ⟨WA,a4⟩:∃ WA,WA=(dz (dD h) V).toArray:=⟨_,rfl⟩;obtain ⟨PA,aw⟩:∃ PA,PA=(EO h (.slice none 0 0) (dD h) V (.slice none 0 0)).toArray:=⟨_,rfl⟩;rw [<- a4];have au:=KL (show (prog.info? 56).map (·.size)=some WA.size by rw [a4];show _=some 26;kernel_rfl);have bp:=KL (show WA.size=26 by rw [a4];rfl);have bm:=KL (show WA.all (·.oneCell')=true by rw [a4];exact kH b0);have b3:=aj a7 bi.out bC;have bc:=KL (show prog.built 59 [(0,.agg CA),(2,.agg WA)]=some PA by rw [a8.out,a4,aw];exact GU h (dD h) V);have bn:=KL a4;have bk:=KL aw;have ar:=KL b3;have cg:=a7.size;have aH:=an.out.trans (a7.mono an.out.size);have bE:=aH.size;have bd:=KL aH;have bh:=KL b0;have c1:=lt_of_block b3;clear a4 aw b3 b0 a7 aH bi an;obtain ⟨cb,bv⟩:∃ cb,cb=w1.heap.size:=⟨_,rfl⟩;rw [<- bv] at ar c1 ⊢;clear bv b7 bC;go_upto_region 4 with (first|(refine LP rfl 56 (.tmp 9) (.tmp 21) rfl w2.heap.size WA rfl rfl 56 _ (aB _ rfl) au.out (by rw [bp.out];rfl) bm.out ?_;refine bA _ (fun w3 al=>?_);have bW:w3.heap[w2.heap.size]?=some (.cells WA 56 (0,0)):=(by rw [al];exact bB (aB _ rfl));have bT:w3.heap[cb]?=some (.cells CA 36 (0,0)):=(by rw [al];exact (setRow_other _ _ _ _ (by omega)).trans ((KQ _ _ _ (by omega)).trans ar.out));have bX:Below w2.heap.size w2 w3:=(by rw [al];exact aV ((KM _ _).alloc (KY _) _) (KY _));have ab:=KL bW;have aa:=KL bT;have a6:=KL bX;clear al bW bT bX)|(refine LO rfl 36 (.tmp 8) rfl cb rfl 36 CA (0,0) _ aa.out underlying36 rfl ao.out ?_)|(refine LO rfl 56 (.tmp 9) rfl w2.heap.size rfl 56 WA (0,0) _ ab.out underlying56 rfl au.out ?_)|(refine sE rfl 59 0 2 (.tmp 23) (.tmp 24) rfl (.agg CA) (.agg WA) rfl rfl PA bc.out ?_));refine bA _ (fun w4 am=>?_)
 have ac:Below w3.heap.size w3 w4:=by rw [am];exact (KM _ _).alloc (KY _) _
 have k4:w4.heap[w3.heap.size]?=some (.cells PA 59 (0,0)):=by rw [am];exact aB _ rfl
 have c0:=aj ac ab.out (lt_of_block ab.out);have bY:=aj ac aa.out (lt_of_block aa.out);have b6:WK (fun _=>True) w3 (dD h) V:=bh.out.keep a6.out.size (fun b hb _=>a6.out.block b hb);have ch:=a6.out.size
 have E:PG w.heap.size w3.heap.size w4 h ⟨[],dD h,[]⟩ V [] (.slice none 0 0) (.slice none 0 0):=by
  rw [am,bk.out];exact DU (by omega) b6
 obtain ⟨aT,cT,eT,_⟩:=ap b6.ro.ta.1;have hN:(dD h).tab.length=h.flows.toNat:=by simp [dD,ga]
 rw [hN] at eT;obtain ⟨N,av⟩:∃ N,N=h.flows.toNat:=⟨_,rfl⟩
 have bu:h.flows=(N:Int):=by rw [av];exact c5.out.1.symm
 rw [<- av] at eT
 have ct:w4.cell? ⟨w2.heap.size,17,none⟩=some (.slice aT N cT):=by rw [ae c0 17,bn.out,<- eT];rfl
 have x0:w4.cell? ⟨cb,0,none⟩=some (.int .i64 (N:Int)):=by rw [ae bY 0,a8.out,<- bu];rfl
 have aF:Below w.heap.size w w4:=(bd.out.trans (a6.out.mono bE)).trans (ac.mono (by omega));obtain ⟨I,hp⟩:∃ I,I=w3.heap.size:=⟨_,rfl⟩;rw [<- hp] at E ⊢;have bj:=KL (show PlR w.heap.size I w h (pD (dD h) 0) w4 from ⟨aF,V,[],_,_,E⟩);have cm:=KL (aq HR.out aF);clear am ac k4 c0 bY b6 E eT hN av bu aF hp bc ab aa a6 bk bn ar bh bd au bp bm cg ch bE c1;go_wp2_with fail;go_loopw [12] (fun i wr=>∃ k:Nat,k<=3/\i=.int .i64 k/\PlR w.heap.size I w h (pD (dD h) k) wr) (fun i _=>3 - (intOf i).toNat)
 case atStart=>exact ⟨0,La _,rfl,bj.out⟩
 case round=>
  obtain ⟨k,hk,rfl,b4⟩:=hrel;obtain ⟨W,Vk,Mk,bb,b9,E⟩:=b4;rcases (show k<3\/k=3 by omega) with K|rfl
  ·have cr:(k:Int)<3:=by omega
   have z:=gF HF.out (k:=k) (by omega);have U:=KL (qY E z.ok (fB (1000+(k:Nat)) (k:Nat) (2+(k:Nat))) (vx K) (by rw [z.len];omega) (by rw [z.len];exact z.gl));rw [<- gL] at U;have J:=KL W;clear E z W;go_wp2_with (go_at_call 11;go_loud (refine U.out.mono ?_;rintro Z w5 ⟨V5,M5,ba,b8,rfl,ag,ad⟩));go_roundw
   case rel=>exact ⟨k+1,by omega,by go_num,J.out.trans ad,V5,M5,ba,b8,ag⟩
   case measure=>simp [intOf];omega
  ·have cn:¬ ((3:Nat):Int)<3:=by omega
   have z:=gF HF.out (k:=3) (by omega);have U:=KL (qY E z.ok ii lG (by rw [z.len];omega) (by rw [z.len];exact z.gl));rw [<- vJ] at U;have J:=KL W;clear E z W;go_wp2_with (go_at_call 11;go_loud (refine U.out.mono ?_;rintro Z w5 ⟨V5,M5,ba,b8,rfl,ag,ad⟩));have c6:=KL (show PlR w.heap.size I w h (iR (dD h) L 0) w5 from ⟨J.out.trans ad,V5,M5,ba,b8,ag⟩);clear ad ag J U bj;go_loopw [14,15] (fun o i wr=>∃ k:Nat,k<=L.length/\k<=most/\i=.int .i64 k/\o=.bool true/\PlR w.heap.size I w h (iR (dD h) L k) wr) (fun _ i _=>most - (intOf i).toNat)
   case atStart=>exact ⟨0,La _,La _,rfl,rfl,c6.out⟩
   case round=>
    obtain ⟨k,hk,co,rfl,rfl,b4⟩:=hrel;obtain ⟨W,Vk,Mk,bb,b9,E⟩:=b4;have J:=KL W;have a9:=KL E;have cf:=aq HR.out W;clear E W;rcases (show (k<L.length/\k<most)\/(k<L.length/\k=most)\/k=L.length by omega) with K|hq|hq
    ·have h1:(k:Int)<(L.length:Int):=by omega
     have h2:(k:Int)<(most:Int):=by omega
     have k0:(0:Int)<=(k:Int):=by omega
     obtain ⟨_,_,e1,_,_,_,q1⟩:=cf;simp only [Value.slice.injEq,Lh] at e1;obtain ⟨rfl,-,rfl⟩:=e1;obtain ⟨b2,o2,rfl,a7,q3⟩:=q1 (by intro Z;have:=congrArg List.length Z;rw [Lh,List.length_nil] at this;omega);have a0:=q3 k 0 (by simpa using K.1) (by omega);have a1:=q3 k 1 (by simpa using K.1) (by omega);have a2:=q3 k 2 (by simpa using K.1) (by omega);have a3:=q3 k 3 (by simpa using K.1) (by omega);have aL:=HD.out (L.getD k Dd.zero) (by rw [aQ K.1];exact Lp _);have z:=zz HF.out L (most:=k) (by omega);have ak:=Cy (dD h) L K.1 Dd.zero
     have bz:(L.take k).length=k:=by rw [Ls];omega
     rw [kP Dd.cells K.1 Dd.zero] at a0 a1 a2 a3;obtain ⟨d,hd⟩:∃ d,d=L.getD k Dd.zero:=⟨_,rfl⟩;rw [<- hd] at a0 a1 a2 a3 aL ak;obtain ⟨d0,d1,d2,d3⟩:=d;simp only [Dd.cells,Lb,Lc,Nat.add_zero] at a0 a1 a2 a3
     have bx:(iR (dD h) L k).given.length<=200000:=by have:=z.gl;omega
     have bf:=KL (zw a9.out bx ⟨d0,d1,d2,d3⟩ aL);obtain ⟨ev,aS⟩:∃ ev,ev=Kt (iR (dD h) L k).given ⟨d0,d1,d2,d3⟩:=⟨_,rfl⟩
     have cc:EvGood ev:=by rw [aS];exact rU z.ok.gi _
     rw [<- aS] at bf ak;have c8:=KL ak;have ay:=z.len;rw [bz] at ay
     have bq:∀ w',Below wr.heap.size wr w'->Calls prog 11 #[.pointer (some ⟨I,0,none⟩),.agg (Ev.cells ev).toArray] w' (BU w.heap.size I w' h (iR (dD h) L (k+1))):=fun w' c9=>by
      rw [c8.out];exact qY (a9.out.below c9) z.ok ev cc (by omega) (by rw [ay];have:=z.gl;omega)
     have U:=KL bq;clear hd aS ak z bq aL bx bz ay q3 q1;go_wp2_with (first|(go_at_call 12;refine bf.out.mono ?_;rintro Z w6 ⟨rfl,bs⟩)|(go_at_call 11;refine (U.out _ bs).mono ?_;rintro Z w7 ⟨V7,M7,cl,ck,rfl,cd,ca⟩));go_roundw
     case rel=>exact ⟨k+1,by omega,by omega,by go_num,rfl,(J.out.trans (bs.mono J.out.size)).trans ca,V7,M7,cl,ck,cd⟩
     case measure=>simp [intOf];omega
    ·have h1:(k:Int)<(L.length:Int):=by omega
     have h2:¬ (k:Int)<(most:Int):=by omega
     obtain rfl:most=k:=hq.2.symm;go_wp2;go_ret2;exact ⟨I,Vk,Mk,bb,b9,rfl,a9.out,J.out⟩
    ·have h1:¬ (k:Int)<(L.length:Int):=by omega
     go_wp2;go_ret2
     have he:iR (dD h) L most=iR (dD h) L k:=by unfold iR;rw [Lo (by omega:L.length<=most),Lo (by omega:L.length<=k)]
     exact ⟨I,Vk,Mk,bb,b9,rfl,by rw [he];exact a9.out,J.out⟩
theorem PG.rd {B p:Nat} {w:World} {c:Cf} {P:mc} {Y:Vs} {U:List Ms} {vs vg:Value} (h:PG B p w c P Y U vs vg) :
  ∃ a z,w.cell? ⟨p,16,none⟩=some (.slice a P.steps.length z)/\(P.steps.length≠0->∃ b o,a=some ⟨b,o,none⟩/\b<w.heap.size/\∀ i,i<P.steps.length->w.rangeAt b (o+i*61) (qh (P.steps.getD i Stp.zero) (U.getD i Ms.zero))):=by
 obtain ⟨a,z,rfl,_⟩:=aE h.os
 have hr:=(aG h.os (mQ h.ml) (Iw _ _)).1
 refine ⟨a,z,by rw [ae h.bk 16];rfl,fun a1=>?_⟩
 obtain ⟨_,_,E,_,_,_,q1⟩:=hr
 injection E with E _ _
 obtain ⟨b,o,rfl,hb,q⟩:=q1 (by intro Z;have:=mQ h.ml;rw [Z] at this;exact a1 this.symm)
 refine ⟨b,o,E,hb,fun i W K v J=>?_⟩
 have a0:K<61:=by
  rcases Nat.lt_or_ge K 61 with I|I
  ·exact I
  ·rw [Lu (by rw [uE];exact I)] at J
   cases J
 rw [q i K (by rw [mQ h.ml];exact W) a0,Eg h.ml W,J]
theorem one_stw {E:Nat->Prop} {w:World} {s:Stp} {m:Ms} (z:StW E w s m):(qh s m).toArray.all (·.oneCell')=true:=by
 obtain ⟨I,J,K,_⟩:=ap z.o.1;rw [Array.all_eq_true_iff_forall_mem];intro U h;refine uY s.ev I (s.out.length) J z.b z.a U ?_;unfold qh at h ⊢;simp only [List.mem_toArray] at h;rw [K] at h;exact h
theorem info_St (s:Stp) (m:Ms):(prog.info? 70).map (·.size)=some (qh s m).length:=by rw [uE];kernel_rfl
theorem Eu {w w':World} {b o:Nat} {L:List Value} (z:Below w.heap.size w w') (E:b<w.heap.size) (h:w.rangeAt b o L):w'.rangeAt b o L:=fV h (z.block b E)
end
end Go.Proofs.YtennppmadmgfoaaGreatDoor
