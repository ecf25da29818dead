/- Texts of the row's proof. Conditions: none. -/
import Derived.Deep.DeepCutAuto
import Derived.Test.YtocbhafgjepnjaaGreatK42
namespace Go.Proofs.YtocbhafgjepnjaaGreat
set_option maxRecDepth 100000
set_option maxHeartbeats 8000000
section
open Go.RowKit
theorem Q46 {p:Prop} (h:p:=by
 go_wp2_with fail;exact ⟨⟨k+1,by omega,by go_num,HBr.out.trans ((HB2.out.trans ((B25.out.trans ((show Below w5.heap.size w5 _ from Zb).mono hz5)).mono hzr)).mono HBr.out.size)⟩,by simp [intOf];omega⟩):p:=h
theorem Q54 {p:Prop} (h:p:=by
 go_wp2_with (go_at_call 17;refine (bK _ _ _ (by omega) (by omega) (by omega) (by omega)).mono ?_;rintro e w1 ⟨rfl,rfl⟩);go_meet
 case rel=>exact ⟨rfl,rfl⟩):p:=h
theorem Q74 {p:Prop} (h:p:=by
 go_wp2;go_roundw
 case rel=>exact ⟨k+1,by omega,by go_num,HBr.out.trans (HB2.out.mono HBr.out.size)⟩
 case measure=>simp [intOf];omega):p:=h
theorem Q75 {p:Prop} (h:p:=by
 have hge:¬ (P.steps.length:Int)<(P.steps.length:Int):=by omega
 go_wp2;go_ret;exact ⟨rfl,HW1.out.trans (HBr.out.mono HW1.out.size)⟩):p:=h
theorem Q163 {p:Prop} (h:p:=by
 go_wp2_with fail;exact ⟨⟨j+1,by omega,by go_num,B25.out⟩,by simp [intOf];omega⟩):p:=h
def Dd.cells (d:Dd):List Value:=[.int .i64 d.kind,.int .i64 d.a,.int .i64 d.b,.int .i64 d.c]
theorem lV (e:Ev):(Ev.cells e).toArray.all (·.oneCell')=true:=by simp [Ev.cells,Value.oneCell']
theorem eR (e:Ev):(Tryz.prog.info? 59).map (·.size)=some (Ev.cells e).toArray.size:=by show _=some 8;kernel_rfl
def Hi (n:Int):Prop:=-9223372036854775808≤n∧n≤9223372036854775807
def Dd.ok (d:Dd):Prop:=Hi d.kind∧Hi d.a∧Hi d.b∧Hi d.c
theorem xQ {B p:Nat} {w:World} {c:Cf} {P:kY} {VL:Vs} {MS:List Ms} {vs vg:Value} (h:PG B p w c P VL MS vs vg) (hgl:P.given.length≤200000) (d:Dd) (hd:Dd.ok d) :
  Calls Tryz.prog 28 #[.pointer (some ⟨p,0,none⟩),.agg (Dd.cells d).toArray] w fun e w'=>e=.returned (.agg (Ev.cells (I0 P.given d)).toArray)∧Below w.heap.size w w':=by
 obtain ⟨dk,da,db,dc⟩:=d
 obtain ⟨⟨k0,k1⟩,⟨a0,a1⟩,⟨b0,b1⟩,⟨c0,c1⟩⟩:=hd
 simp only at k0 k1 a0 a1 b0 b1 c0 c1
 have a0':=a0
 have a1':=a1
 obtain ⟨ag,cg,rfl,_⟩:=aB h.og
 have hp:=lt_of_block h.bk
 have hrow:=(aC (L:=P.given.map Hd.cells) h.og (by simp) (by intro c hc;obtain ⟨x,_,rfl⟩:=II.1 hc;rfl)).1
 have x43:w.cell? ⟨p,43,none⟩=some (.slice ag P.given.length cg):=by rw [aa h.bk 43];rfl
 have HR:=Ib hrow
 have HX:=Ib x43
 obtain ⟨G,hG⟩:∃ G,G=P.given:=⟨_,rfl⟩
 rw [← hG] at HR HX hgl ⊢
 clear h hrow x43 hG
 unfold Dd.cells
 go_enter Tryz.func28,Tryz.ntmps28
 go_wp2_with fail
 refine aW _ (fun wb hwb=>?_)
 have bwb:Below w.heap.size w wb:=by rw [hwb];exact ((Ic _ _).alloc (Ij _) _).alloc (by simp) _
 have hsz:wb.heap.size=w.heap.size+2:=by rw [hwb];simp
 have hbd:wb.heap[w.heap.size]?=some (.cells (Dd.cells ⟨dk,da,db,dc⟩).toArray 97 (0,0)):=by rw [hwb];exact (If _ _ _ (by simp)).trans (au _ rfl)
 have hbe:wb.heap[w.heap.size+1]?=some (.cells (Ev.cells Ev.zero).toArray 59 (0,0)):=by rw [hwb];exact au _ (by simp)
 have y1:wb.cell? ⟨w.heap.size,1,none⟩=some (.int .i64 da):=by rw [aa hbd 1];rfl
 have y2:wb.cell? ⟨w.heap.size,2,none⟩=some (.int .i64 db):=by rw [aa hbd 2];rfl
 have HD:=Ib hbd
 have HE:=Ib hbe
 have HB:=Ib bwb
 clear hwb bwb hbd hbe
 have p1:=cP da (m:=8) (by decide)
 have p2:=cP db (m:=3) (by decide)
 refine join1 (P:=?jP1) (F:=(fun w1:World=>Below wb.heap.size wb w1∧w1.heap[w.heap.size+2]?=some (.cells (Hd.cells ⟨pk da 8,pk db 3⟩).toArray 110 (0,0)))) (fun key=>?jm1) ?jr1
 case jm1=>
  refine Zr (fun w':World=>w'.cell? ⟨w.heap.size,1,none⟩=some (.int .i64 da)∧w'.cell? ⟨w.heap.size,2,none⟩=some (.int .i64 db)) (fun hHeld=>?_);refine dd 0 ?_;refine dd 3 ?_;refine Z2 2 7 (fun K hK=>?_) (fun K hK=>?_);(focus (go_simp;(go_at_call 17;refine (bK _ _ _ (by omega) (by omega) (by omega) (by omega)).mono ?_;rintro e w1 ⟨rfl,rfl⟩);(try go_wp2_with fail);refine Zk hK fun hHeld=>?_;clear hK K;refine Z2 5 7 (fun K hK=>?_) (fun K hK=>?_);(focus (go_simp;(go_at_call 17;refine (bK _ _ _ (by omega) (by omega) (by omega) (by omega)).mono ?_;rintro e w1 ⟨rfl,rfl⟩);(try go_wp2_with fail);refine Zk hK fun hHeld=>?_;clear hK K;refine Zt 6 ?_;refine Z1 7 (fun K hK=>?_);go_simp;refine Zk hK fun hHeld=>?_;clear hK K));rotate_left 1;(focus (go_simp;refine Zk hK fun hHeld=>?_;clear hK K;refine Z1 5 (fun K hK=>?_);go_simp;(go_at_call 17;refine (bK _ _ _ (by omega) (by omega) (by omega) (by omega)).mono ?_;rintro e w1 ⟨rfl,rfl⟩);(try go_wp2_with fail);refine Zk hK fun hHeld=>?_;clear hK K;refine Zt 6 ?_));rotate_left 1));rotate_left 2;(focus (go_simp;refine Zk hK fun hHeld=>?_;clear hK K;refine Z1 2 (fun K hK=>?_);go_simp;(go_at_call 17;refine (bK _ _ _ (by omega) (by omega) (by omega) (by omega)).mono ?_;rintro e w1 ⟨rfl,rfl⟩);(try go_wp2_with fail);refine Zk hK fun hHeld=>?_;clear hK K;refine Z1 5 (fun K hK=>?_);go_simp;(go_at_call 17;refine (bK _ _ _ (by omega) (by omega) (by omega) (by omega)).mono ?_;rintro e w1 ⟨rfl,rfl⟩);(try go_wp2_with fail);refine Zk hK fun hHeld=>?_;clear hK K;refine Zt 6 ?_));rotate_left 1;(all_goals (refine Z1 8 (fun K hK=>?_);go_simp;refine Zk hK fun hHeld=>?_;clear hK K));(all_goals refine Zd ?_)
  all_goals
   refine aW _ (fun wz hwz=>?_)
   refine key wz ⟨?_,?_⟩
   ·rw [hwz];exact Zb
   ·rw [hwz,← hsz];exact cE wb _
 case jr1=>
  rintro w1 ⟨hb1,hh1⟩;have bw1:=HB.out.trans (hb1.mono HB.out.size);have x43:w1.cell? ⟨p,43,none⟩=some (.slice ag G.length cg):=ae bw1 HX.out hp;have hbd:=ai hb1 HD.out (lt_of_block HD.out);have hbe:=ai hb1 HE.out (lt_of_block HE.out)
  have y0:w1.cell? ⟨w.heap.size,0,none⟩=some (.int .i64 dk):=by rw [aa hbd 0];rfl
  have y1:w1.cell? ⟨w.heap.size,1,none⟩=some (.int .i64 da):=by rw [aa hbd 1];rfl
  have y2:w1.cell? ⟨w.heap.size,2,none⟩=some (.int .i64 db):=by rw [aa hbd 2];rfl
  have y3:w1.cell? ⟨w.heap.size,3,none⟩=some (.int .i64 dc):=by rw [aa hbd 3];rfl
  have p3:=cP dc (m:=9) (by decide);obtain ⟨q,hq⟩:∃ q:Bool,q=decide (0<G.length∧0<pk dc 9):=⟨_,rfl⟩;have HQ:=Ib hq;have HHd:=Ib hbd;have HHe:=Ib hbe;have H1:=Ib hh1;have HB1:=Ib hb1;have HSz:=Ib hsz
  have hp1:p<w1.heap.size:=by have:=bw1.size;omega
  clear hq hbd hbe hh1 hb1 bw1 hsz;go_upto_region 2 with fail
  go_cut [25] from 14 to 25 (fun v w'=>v=.bool q∧w'=w1)
  case first=>
   by_cases h1:0<G.length
   ·have g1:(0:Int)<(G.length:Int):=by omega
    have d1:decide ((0:Int)<(G.length:Int))=true:=by simpa using h1
    by_cases h2:0<pk dc 9
    ·have d2:decide (0<pk dc 9)=true:=by simpa using h2
     obtain rfl:q=true:=by rw [HQ.out];simp [h1,h2]
     exact Q54
    ·have d2:decide (0<pk dc 9)=false:=by simpa using h2
     obtain rfl:q=false:=by rw [HQ.out];simp [h2]
     exact Q54
   ·have g1:¬ (0:Int)<(G.length:Int):=by omega
    have d1:decide ((0:Int)<(G.length:Int))=false:=by simpa using h1
    obtain rfl:q=false:=by rw [HQ.out];simp [h1]
    exact Q54
  case rest=>
   obtain ⟨rfl,hwc⟩:=hcut;obtain rfl:w1=wc:=hwc.symm;go_upto_if 25 with fail
   go_cut [] from 26 to 47 (fun w'=>Below wb.heap.size wb w'∧w'.heap[w.heap.size+2]?=some (.cells (Hd.cells (EY G ⟨dk,da,db,dc⟩)).toArray 110 (0,0)))
   case first=>
    cases q with
    | false=>
     go_wp2_with fail;go_meet
     case rel=>
      refine ⟨HB1.out,H1.out.trans ?_⟩;have h1:=of_decide_eq_false HQ.out.symm;unfold EY;rw [if_neg h1]
    | true=>
     have h1:=of_decide_eq_true HQ.out.symm;have hG:=h1.1;have hG1:(1:Int)≤(G.length:Int):=by omega
     have hG2:(G.length:Int)≤200000:=by omega
     obtain ⟨m,hm⟩:∃ m:Nat,m=min G.length 8:=⟨_,rfl⟩;have pm:=cP da (m:=(m:Int)) (by omega);obtain ⟨M,hM⟩:∃ M,M=pk da (m:Int):=⟨_,rfl⟩;rw [← hM] at pm;obtain ⟨i,hi⟩:∃ i:Nat,i=G.length - 1 - M.toNat:=⟨_,rfl⟩;have hil:i<G.length:=by omega
     have hie:(G.length:Int) - 1 - M=(i:Int):=by omega
     have hix:EY G ⟨dk,da,db,dc⟩=G.getD i ⟨0,0⟩:=by unfold EY;rw [if_pos h1,hi,hM,hm]
     obtain ⟨_,_,e1,_,_,_,q1⟩:=HR.out;simp only [Value.slice.injEq,Iq] at e1;obtain ⟨rfl,-,rfl⟩:=e1;obtain ⟨bg,og,rfl,hbg,q3⟩:=q1 (by intro e;have:=congrArg List.length e;simp at this;rw [this] at hil;simp at hil);have hw1:=(HB.out.trans (HB1.out.mono HB.out.size));have a0:=(hw1.cell (p:=⟨bg,og+i*2+0,none⟩) hbg).trans (q3 i 0 (by simpa using hil) (by omega));have a1:=(hw1.cell (p:=⟨bg,og+i*2+1,none⟩) hbg).trans (q3 i 1 (by simpa using hil) (by omega));rw [jq Hd.cells hil ⟨0,0⟩] at a0 a1;obtain ⟨x,hx⟩:∃ x,x=G.getD i ⟨0,0⟩:=⟨_,rfl⟩;rw [← hx] at a0 a1 hix;obtain ⟨x0,x1⟩:=x;have HIX:=Ib hix;simp only [Hd.cells,Il,Im,Nat.add_zero] at a0 a1;have hxb:w.heap.size+2<w1.heap.size:=lt_of_block H1.out;have hxp:¬ p=w.heap.size+2:=by omega
     have hxg:¬ bg=w.heap.size+2:=by omega
     have hlt':(i:Int)<(G.length:Int):=by omega
     have i0':(0:Int)≤(i:Int):=by omega
     have xfh:∀ n,w1.frozen? ⟨w.heap.size+2,n,none⟩=false:=fun n=>ap H1.out n
     have xh0:w1.cell? ⟨w.heap.size+2,0,none⟩=some (.int .i64 (pk da 8)):=by rw [aa H1.out 0];rfl
     have xh1:w1.cell? ⟨w.heap.size+2,1,none⟩=some (.int .i64 (pk db 3)):=by rw [aa H1.out 1];rfl
     have HM:=Ib (show pk da (min (G.length:Int) 8)=M by rw [hM];congr 1;omega);have m0:(0:Int)<(m:Int):=by omega
     have m1:(m:Int)≤8:=by omega
     have hmm:m=G.length∧G.length≤8∨m=8∧8≤G.length:=by omega
     have hwr:IntKind.i64.wrap (IntKind.i64.wrap ((G.length:Int) - 1) - M)=(i:Int):=by rw [IL ((G.length:Int) - 1) (by omega),IL _ (by omega)];exact hie
     clear hm hM hi hix hx q1 q3 hw1 h1;go_wp2_with fail;refine Zr (fun w':World=>w'.cell? ⟨p,43,none⟩=some (.slice (some ⟨bg,og,none⟩) G.length cg)∧w'.cell? ⟨w.heap.size,1,none⟩=some (.int .i64 da)∧w'.cell? ⟨bg,og+i*2,none⟩=some (.int .i64 x0)∧w'.cell? ⟨bg,og+i*2+1,none⟩=some (.int .i64 x1)) (fun hHeld=>?_);refine eB 0 ?_;refine eB 8 ?_;refine dd 16 ?_;refine Z1 18 (fun K hK=>?_);go_simp;(go_at_call 17;refine (bK da (min (G.length:Int) 8) _ a0' a1' (by omega) (by omega)).mono ?_;rw [HM.out];rintro e w1 ⟨rfl,rfl⟩);(try go_wp2_with fail);refine Zk hK fun hHeld=>?_;clear hK K;refine dd 19 ?_;refine Zt 21 ?_;refine Z1 22 (fun K hK=>?_);go_simp;refine Zk hK fun hHeld=>?_;clear hK K;refine Zd ?_;go_wp2_with fail;go_meet
     case rel=>
      refine ⟨?_,?_⟩
      ·have hs2:=HSz.out;exact ((HB1.out.setCell (by simp;omega) _).setCell (by simp;omega) _).drew
      ·rw [HIX.out];exact aP (aP H1.out _) _
   case rest=>
    obtain ⟨hb3,hh3⟩:=hcut;have bw3:=HB.out.trans (hb3.mono HB.out.size);have hbd:=ai hb3 HD.out (lt_of_block HD.out);have hbe:=ai hb3 HE.out (lt_of_block HE.out)
    have y0:wc.cell? ⟨w.heap.size,0,none⟩=some (.int .i64 dk):=by rw [aa hbd 0];rfl
    have y1:wc.cell? ⟨w.heap.size,1,none⟩=some (.int .i64 da):=by rw [aa hbd 1];rfl
    have y2:wc.cell? ⟨w.heap.size,2,none⟩=some (.int .i64 db):=by rw [aa hbd 2];rfl
    have y3:wc.cell? ⟨w.heap.size,3,none⟩=some (.int .i64 dc):=by rw [aa hbd 3];rfl
    obtain ⟨x,hx⟩:∃ x,x=EY G ⟨dk,da,db,dc⟩:=⟨_,rfl⟩;rw [← hx] at hh3;obtain ⟨x0,x1⟩:=x
    have z0:wc.cell? ⟨w.heap.size+2,0,none⟩=some (.int .i64 x0):=by rw [aa hh3 0];rfl
    have z1:wc.cell? ⟨w.heap.size+2,1,none⟩=some (.int .i64 x1):=by rw [aa hh3 1];rfl
    have xfe:∀ n,wc.frozen? ⟨w.heap.size+1,n,none⟩=false:=fun n=>ap hbe n;have q100:=cP da (m:=100) (by decide);have q30:=cP da (m:=30) (by decide);have q5:=cP db (m:=5) (by decide);have q8:=cP dc (m:=8) (by decide);have q2:=cP db (m:=2) (by decide);have q20:=cP dk (m:=20) (by decide);have HX:=Ib hx;have HBe:=Ib hbe;have HB3:=Ib hb3;have hp3:w.heap.size+2<wc.heap.size:=lt_of_block hh3;have HSz2:=HSz;obtain ⟨ev,hev⟩:∃ ev,ev=I0 G ⟨dk,da,db,dc⟩:=⟨_,rfl⟩;have hev2:=hev;unfold I0 at hev2;simp only at hev2;rw [← hx] at hev2;have HEq:=Ib hev;have HEv:=Ib hev2;have HBw:=Ib bw3;clear hx hbd hbe hb3 hh3 hev hev2 bw3 p1 p2 p3;have w8:IntKind.i64.wrap (1+pk dc 8)=1+pk dc 8:=IL _ (by omega);by_cases n0:pk dk 20<6
    ·have HV:=Ib (show ev=j9 (pk da 100) by rw [HEv.out,if_pos n0]);go_wp2_with (first|(refine IP rfl 59 (.tmp 4) (.tmp 57) rfl (w.heap.size+1) (Ev.cells (j9 (pk da 100))).toArray rfl rfl 59 (Ev.cells Ev.zero).toArray HBe.out (eR _) rfl (lV _) ?_)|(go_at_call 17;refine (bK _ _ _ (by omega) (by omega) (by omega) (by omega)).mono ?_;rintro e w1 ⟨rfl,rfl⟩));go_wp2_with fail;refine IM (v:=.agg (Ev.cells (j9 (pk da 100))).toArray) (results_cell_row rfl _ _ (w.heap.size+1) 59 (Ev.cells (j9 (pk da 100))).toArray (0,0) _ rfl (aX HBe.out) Tryz.underlying59 rfl (eR _)) rfl ⟨by rw [← HEq.out,HV.out],(by first|exact aQ HBw.out (by omega)|exact aQ HBw.out.drew (by omega))⟩
    ·by_cases n1:pk dk 20=6
     ·have HV:=Ib (show ev=gU 2 ⟨x0,x1⟩ false by rw [HEv.out,if_neg n0,if_pos n1]);go_wp2_with (first|(refine IP rfl 59 (.tmp 4) (.tmp 65) rfl (w.heap.size+1) (Ev.cells (gU 2 ⟨x0,x1⟩ false)).toArray rfl rfl 59 (Ev.cells Ev.zero).toArray HBe.out (eR _) rfl (lV _) ?_)|(go_at_call 17;refine (bK _ _ _ (by omega) (by omega) (by omega) (by omega)).mono ?_;rintro e w1 ⟨rfl,rfl⟩));go_wp2_with fail;refine IM (v:=.agg (Ev.cells (gU 2 ⟨x0,x1⟩ false)).toArray) (results_cell_row rfl _ _ (w.heap.size+1) 59 (Ev.cells (gU 2 ⟨x0,x1⟩ false)).toArray (0,0) _ rfl (aX HBe.out) Tryz.underlying59 rfl (eR _)) rfl ⟨by rw [← HEq.out,HV.out],(by first|exact aQ HBw.out (by omega)|exact aQ HBw.out.drew (by omega))⟩
     ·by_cases n2:pk dk 20=7
      ·have HV:=Ib (show ev=gU 3 ⟨x0,x1⟩ false by rw [HEv.out,if_neg n0,if_neg n1,if_pos n2]);go_wp2_with (first|(refine IP rfl 59 (.tmp 4) (.tmp 73) rfl (w.heap.size+1) (Ev.cells (gU 3 ⟨x0,x1⟩ false)).toArray rfl rfl 59 (Ev.cells Ev.zero).toArray HBe.out (eR _) rfl (lV _) ?_)|(go_at_call 17;refine (bK _ _ _ (by omega) (by omega) (by omega) (by omega)).mono ?_;rintro e w1 ⟨rfl,rfl⟩));go_wp2_with fail;refine IM (v:=.agg (Ev.cells (gU 3 ⟨x0,x1⟩ false)).toArray) (results_cell_row rfl _ _ (w.heap.size+1) 59 (Ev.cells (gU 3 ⟨x0,x1⟩ false)).toArray (0,0) _ rfl (aX HBe.out) Tryz.underlying59 rfl (eR _)) rfl ⟨by rw [← HEq.out,HV.out],(by first|exact aQ HBw.out (by omega)|exact aQ HBw.out.drew (by omega))⟩
      ·by_cases n3:pk dk 20<12
       ·have HV:=Ib (show ev=gU 4 ⟨x0,x1⟩ (pk db 2 == 0) by rw [HEv.out,if_neg n0,if_neg n1,if_neg n2,if_pos n3]);go_wp2_with (go_at_call 17;refine (bK _ _ _ (by omega) (by omega) (by omega) (by omega)).mono ?_;rintro e w1 ⟨rfl,rfl⟩);refine Zr (fun w':World=>w'.cell? ⟨w.heap.size+2,0,none⟩=some (.int .i64 x0)∧w'.cell? ⟨w.heap.size+2,1,none⟩=some (.int .i64 x1)∧w'.cell? ⟨w.heap.size,2,none⟩=some (.int .i64 db)) (fun hHeld=>?_) (by (try dsimp only);((try dsimp only);go_split_ands;(repeat' apply And.intro);all_goals (repeat (first|with_reducible assumption|(with_reducible refine ce ?_)|(refine bB ?_ (by omega))))));refine eP 0 ?_;refine dd 4 ?_;refine Z1 6 (fun K hK=>?_);go_simp;(go_at_call 17;refine (bK _ _ _ (by omega) (by omega) (by omega) (by omega)).mono ?_;rintro e w1 ⟨rfl,rfl⟩);(try go_wp2_with fail);refine Zk hK (hS:=by (try dsimp only);((try dsimp only);go_split_ands;(repeat' apply And.intro);all_goals (repeat (first|with_reducible assumption|(with_reducible refine ce ?_)|(refine bB ?_ (by omega)))))) fun hHeld=>?_;clear hK K;refine dd 7 ?_;refine Z1 9 (fun K hK=>?_);rw [if_pos (by rfl)];refine IQ 59 (.tmp 4) (.tmp 85) rfl (w.heap.size+1) (Ev.cells (gU 4 ⟨x0,x1⟩ (pk db 2 == 0))).toArray rfl rfl 59 (Ev.cells Ev.zero).toArray HBe.out (eR _) rfl (lV _) ?_;refine Zk hK (hS:=by (try dsimp only);((try dsimp only);go_split_ands;(repeat' apply And.intro);all_goals (repeat (first|with_reducible assumption|(with_reducible refine ce ?_)|(refine bB ?_ (by omega)))))) fun hHeld=>?_;clear hK K;refine Zd ?_
        all_goals (go_wp2_with fail;refine IM (v:=.agg (Ev.cells (gU 4 ⟨x0,x1⟩ (pk db 2 == 0))).toArray) (results_cell_row rfl _ _ (w.heap.size+1) 59 (Ev.cells (gU 4 ⟨x0,x1⟩ (pk db 2 == 0))).toArray (0,0) _ rfl (aX HBe.out) Tryz.underlying59 rfl (eR _)) rfl ⟨by rw [← HEq.out,HV.out],(by first|exact aQ HBw.out (by omega)|exact aQ HBw.out.drew (by omega))⟩)
       ·by_cases n4:pk dk 20<14
        ·have HV:=Ib (show ev=ff (pk da 30) (pk db 5) (1+pk dc 8) by rw [HEv.out,if_neg n0,if_neg n1,if_neg n2,if_neg n3,if_pos n4]);go_wp2_with (go_at_call 17;refine (bK _ _ _ (by omega) (by omega) (by omega) (by omega)).mono ?_;rintro e w1 ⟨rfl,rfl⟩);refine Zr (fun w':World=>w'.cell? ⟨w.heap.size,1,none⟩=some (.int .i64 da)∧w'.cell? ⟨w.heap.size,2,none⟩=some (.int .i64 db)∧w'.cell? ⟨w.heap.size,3,none⟩=some (.int .i64 dc)) (fun hHeld=>?_) (by (try dsimp only);((try dsimp only);go_split_ands;(repeat' apply And.intro);all_goals (repeat (first|with_reducible assumption|(with_reducible refine ce ?_)|(refine bB ?_ (by omega))))));refine dd 0 ?_;refine dd 3 ?_;refine dd 6 ?_;refine Z1 2 (fun K hK=>?_);go_simp;(go_at_call 17;refine (bK _ _ _ (by omega) (by omega) (by omega) (by omega)).mono ?_;rintro e w1 ⟨rfl,rfl⟩);(try go_wp2_with fail);refine Zk hK (hS:=by (try dsimp only);((try dsimp only);go_split_ands;(repeat' apply And.intro);all_goals (repeat (first|with_reducible assumption|(with_reducible refine ce ?_)|(refine bB ?_ (by omega)))))) fun hHeld=>?_;clear hK K;refine Z1 5 (fun K hK=>?_);go_simp;(go_at_call 17;refine (bK _ _ _ (by omega) (by omega) (by omega) (by omega)).mono ?_;rintro e w1 ⟨rfl,rfl⟩);(try go_wp2_with fail);refine Zk hK (hS:=by (try dsimp only);((try dsimp only);go_split_ands;(repeat' apply And.intro);all_goals (repeat (first|with_reducible assumption|(with_reducible refine ce ?_)|(refine bB ?_ (by omega)))))) fun hHeld=>?_;clear hK K;refine Z1 8 (fun K hK=>?_);go_simp;(go_at_call 17;refine (bK _ _ _ (by omega) (by omega) (by omega) (by omega)).mono ?_;rintro e w1 ⟨rfl,rfl⟩);(try go_wp2_with fail);refine Zk hK (hS:=by (try dsimp only);((try dsimp only);go_split_ands;(repeat' apply And.intro);all_goals (repeat (first|with_reducible assumption|(with_reducible refine ce ?_)|(refine bB ?_ (by omega)))))) fun hHeld=>?_;clear hK K;refine dd 9 ?_;refine Z1 11 (fun K hK=>?_);rw [if_pos (by rfl)];refine IQ 59 (.tmp 4) (.tmp 99) rfl (w.heap.size+1) (Ev.cells (ff (pk da 30) (pk db 5) (1+pk dc 8))).toArray rfl rfl 59 (Ev.cells Ev.zero).toArray HBe.out (eR _) rfl (lV _) ?_;refine Zk hK (hS:=by (try dsimp only);((try dsimp only);go_split_ands;(repeat' apply And.intro);all_goals (repeat (first|with_reducible assumption|(with_reducible refine ce ?_)|(refine bB ?_ (by omega)))))) fun hHeld=>?_;clear hK K;refine Zd ?_
         all_goals (go_wp2_with fail;refine IM (v:=.agg (Ev.cells (ff (pk da 30) (pk db 5) (1+pk dc 8))).toArray) (results_cell_row rfl _ _ (w.heap.size+1) 59 (Ev.cells (ff (pk da 30) (pk db 5) (1+pk dc 8))).toArray (0,0) _ rfl (aX HBe.out) Tryz.underlying59 rfl (eR _)) rfl ⟨by rw [← HEq.out,HV.out],(by first|exact aQ HBw.out (by omega)|exact aQ HBw.out.drew (by omega))⟩)
        ·by_cases n5:pk dk 20=14
         ·have HV:=Ib (show ev=ls (pk da 30) (pk db 5) by rw [HEv.out,if_neg n0,if_neg n1,if_neg n2,if_neg n3,if_neg n4,if_pos n5]);go_wp2_with (go_at_call 17;refine (bK _ _ _ (by omega) (by omega) (by omega) (by omega)).mono ?_;rintro e w1 ⟨rfl,rfl⟩);refine Zr (fun w':World=>w'.cell? ⟨w.heap.size,1,none⟩=some (.int .i64 da)∧w'.cell? ⟨w.heap.size,2,none⟩=some (.int .i64 db)∧w'.cell? ⟨w.heap.size,3,none⟩=some (.int .i64 dc)) (fun hHeld=>?_) (by (try dsimp only);((try dsimp only);go_split_ands;(repeat' apply And.intro);all_goals (repeat (first|with_reducible assumption|(with_reducible refine ce ?_)|(refine bB ?_ (by omega))))));refine dd 0 ?_;refine dd 3 ?_;refine Z1 2 (fun K hK=>?_);go_simp;(go_at_call 17;refine (bK _ _ _ (by omega) (by omega) (by omega) (by omega)).mono ?_;rintro e w1 ⟨rfl,rfl⟩);(try go_wp2_with fail);refine Zk hK (hS:=by (try dsimp only);((try dsimp only);go_split_ands;(repeat' apply And.intro);all_goals (repeat (first|with_reducible assumption|(with_reducible refine ce ?_)|(refine bB ?_ (by omega)))))) fun hHeld=>?_;clear hK K;refine Z1 5 (fun K hK=>?_);go_simp;(go_at_call 17;refine (bK _ _ _ (by omega) (by omega) (by omega) (by omega)).mono ?_;rintro e w1 ⟨rfl,rfl⟩);(try go_wp2_with fail);refine Zk hK (hS:=by (try dsimp only);((try dsimp only);go_split_ands;(repeat' apply And.intro);all_goals (repeat (first|with_reducible assumption|(with_reducible refine ce ?_)|(refine bB ?_ (by omega)))))) fun hHeld=>?_;clear hK K;refine Zt 6 ?_;refine Z1 7 (fun K hK=>?_);rw [if_pos (by rfl)];refine IQ 59 (.tmp 4) (.tmp 109) rfl (w.heap.size+1) (Ev.cells (ls (pk da 30) (pk db 5))).toArray rfl rfl 59 (Ev.cells Ev.zero).toArray HBe.out (eR _) rfl (lV _) ?_;refine Zk hK (hS:=by (try dsimp only);((try dsimp only);go_split_ands;(repeat' apply And.intro);all_goals (repeat (first|with_reducible assumption|(with_reducible refine ce ?_)|(refine bB ?_ (by omega)))))) fun hHeld=>?_;clear hK K;refine Zd ?_
          all_goals (go_wp2_with fail;refine IM (v:=.agg (Ev.cells (ls (pk da 30) (pk db 5))).toArray) (results_cell_row rfl _ _ (w.heap.size+1) 59 (Ev.cells (ls (pk da 30) (pk db 5))).toArray (0,0) _ rfl (aX HBe.out) Tryz.underlying59 rfl (eR _)) rfl ⟨by rw [← HEq.out,HV.out],(by first|exact aQ HBw.out (by omega)|exact aQ HBw.out.drew (by omega))⟩)
         ·have HV:=Ib (show ev=gT by rw [HEv.out,if_neg n0,if_neg n1,if_neg n2,if_neg n3,if_neg n4,if_neg n5]);go_wp2_with (first|(refine IP rfl 59 (.tmp 4) (.tmp 110) rfl (w.heap.size+1) (Ev.cells (gT)).toArray rfl rfl 59 (Ev.cells Ev.zero).toArray HBe.out (eR _) rfl (lV _) ?_)|(go_at_call 17;refine (bK _ _ _ (by omega) (by omega) (by omega) (by omega)).mono ?_;rintro e w1 ⟨rfl,rfl⟩));go_wp2_with fail;refine IM (v:=.agg (Ev.cells (gT)).toArray) (results_cell_row rfl _ _ (w.heap.size+1) 59 (Ev.cells (gT)).toArray (0,0) _ rfl (aX HBe.out) Tryz.underlying59 rfl (eR _)) rfl ⟨by rw [← HEq.out,HV.out],(by first|exact aQ HBw.out (by omega)|exact aQ HBw.out.drew (by omega))⟩
def begV (vt vh vl:Value):Vs:=⟨vt,.slice none 0 0,.slice none 0 0,.slice none 0 0,.slice none 0 0,vh,vl,List.replicate 12 (.slice none 0 0)⟩
theorem im (K:Nat→Prop) (w:World) (sz:Nat):cZ K w sz (.slice none 0 0) []:=⟨io w sz,fun _ _ _ _ _ h=>absurd rfl h⟩
theorem mD {α:Type} {n i:Nat} (x d:α) (h:i<n):(List.replicate n x).getD i d=x:=by rw [aK (by simpa using h),List.getElem_replicate]
theorem beg_wk {c:Cf} {w:World} {N:Nat} {vt vh vl:Value} (hN:c.flows.toNat=N) (ht:aG w 4 vt ((fA N).map Sl.cells)) (hh:aG w 4 vh (iI 12)) (hl:aG w 1 vl (tQ 25)):WK (fun _=>True) w (di c) (begV vt vh vl):=by
 have tk:∀ {sz:Nat} {v:Value} {L:List (List Value)},aG w sz v L→cZ (fun _=>True) w sz v L:=fun h=>⟨h,fun _ _ _ _ _ _=>trivial⟩;refine ⟨⟨?_,im _ _ _,im _ _ _,im _ _ _,?_,by simp [begV,di],fun i hi=>?_⟩,im _ _ _,?_⟩
 ·show cZ _ w 4 vt ((fA c.flows.toNat).map Sl.cells)
  rw [hN];exact tk ht
 ·refine ⟨List.replicate 25 (.slice none 0 0),by simp [di],?_,fun i hi=>?_⟩
  ·show cZ _ w 1 vl _
   rw [List.map_replicate];exact tk hl
  ·have hi':i<25:=by simpa [di] using hi
   show cZ _ w 2 ((List.replicate 25 _).getD i undef) (((List.replicate 25 ([]:List Tm)).getD i []).map Tm.cells)
   rw [mD _ _ hi',mD _ _ hi'];exact im _ _ _
 ·have hi':i<12:=by simpa [di] using hi
  show cZ _ w 1 ((List.replicate 12 _).getD i undef) (cD ((List.replicate 12 Ht.zero).getD i Ht.zero).marks)
  rw [mD _ _ hi',mD _ _ hi'];exact im _ _ _
 ·exact tk hh
theorem C3 {B:Nat} {w:World} {c:Cf} {V:Vs} (hB:B≤w.heap.size) (h:WK (fun _=>True) w (di c) V):PG B w.heap.size (w.alloc (.cells (CU c (.slice none 0 0) (di c) V (.slice none 0 0)).toArray 57 (0,0))) c ⟨[],di c,[]⟩ V [] (.slice none 0 0) (.slice none 0 0):=by
 refine ⟨au _ rfl,IK _ _ _ _,IK _ _ _ _,hB,fun b e=>(by simp [Value.ownBlock] at e),fun b e=>(by simp [Value.ownBlock] at e),rfl,?_,fun i hi=>absurd hi (Nat.not_lt_zero i)⟩;refine (h.imp (K':=NP w.heap.size (.slice none 0 0) (.slice none 0 0)) (fun b hb _=>⟨by omega,by simp [Value.ownBlock],by simp [Value.ownBlock]⟩)).keep (by simp) (fun b hb _=>If _ _ _ hb)
def BegP2 (w:World) (c:Cf) (e:Ending) (w':World):Prop:=∃ V,e=.returned (.tuple #[.agg (cQ (di c) V).toArray,.int .i64 0])∧WK (fun _=>True) w' (di c) V∧Below w.heap.size w w'
theorem CK (c:Cf) (h:j4 c) (w:World):Calls Tryz.prog 26 #[.agg (Cf.cells c).toArray] w (BegP2 w c):=by
 obtain ⟨flows,num,den,tries,warm,drain,idle,connect,retries,most,bn,bd,bb,ww,wf,wh⟩:=c
 have h0:0≤flows:=by have:=h.1.2.2.1;simp only at this;omega
 obtain ⟨N,rfl⟩:=Iy h0;refine (ru num den tries warm drain idle connect retries most bn bd bb ww wf wh N w h).mono ?_;rintro e w' ⟨vt,vh,vl,rfl,ht,hh,hl,hb⟩;exact ⟨begV vt vh vl,rfl,beg_wk (by simp) ht hh hl,hb⟩
theorem El (c:Cf) (X:Wd) (V:Vs):Tryz.prog.built 57 [(0,.agg (Cf.cells c).toArray),(2,.agg (cQ X V).toArray)]=some (CU c (.slice none 0 0) X V (.slice none 0 0)).toArray:=by kernel_rfl
theorem rb {P:Program} {ops:Array Oper} {rest:List Oper} {o:Oper} {a:Act} {w:World} {Q:Exit→Act→World→Prop} (hg:o.guard=none) (t:TypeId) (i j:Nat) (x y:Operand) (ho:o.op=.build t #[(i,x),(j,y)])
  (u v:Value) (hx:a.eval x=u) (hy:a.eval y=v) (arr:Array Value) (hA:P.built t [(i,u),(j,v)]=some arr) (h:wpList P ops Q rest (a.put o.dst (.agg arr)) w):wpList P ops Q (o :: rest) a w:=by
 have hp:P.built t (#[(i,x),(j,y)].map fun (i,x)=>(i,a.eval x)).toList=some arr:=by simp only [List.map_toArray,List.map_cons,List.map_nil,hx,hy];exact hA
 exact wpList_plain hg fun _ hK=>wp_build t _ ho (by rw [hp];rfl) (by rw [hp];exact hK _ _ h)
def pf (w:World) (c:Cf) (L:List Dd) (most:Nat) (e:Ending) (w':World):Prop:=∃ p VL MS vs vg,e=.returned (.tuple #[.pointer (some ⟨p,0,none⟩),.bool true])∧PG w.heap.size p w' c (fW (di c) L most) VL MS vs vg∧Below w.heap.size w w'
def PlR (B p:Nat) (w:World) (c:Cf) (P:kY) (wr:World):Prop:=Below B w wr∧∃ VL MS vs vg,PG B p wr c P VL MS vs vg
theorem kc {w:World} (s:Su) (hs:SuI s) (L:List Dd) (hd:∀ d∈L,d.ok) (v:Value) (r:aG w 4 v (L.map Dd.cells)) (most:Nat) (hm:most≤1000):Calls Tryz.prog 13 #[.agg (Su.cells s).toArray,v,.int .i64 (most:Int)] w (pf w (yC s) L most):=by
 obtain ⟨a,cp,rfl,_⟩:=aj r;have hcf:=pa s;have HC:=Ib (vi s hs);obtain ⟨c,hc⟩:∃ c,c=yC s:=⟨_,rfl⟩;rw [← hc] at HC hcf ⊢;obtain ⟨SA,hSA⟩:∃ SA,SA=(Su.cells s).toArray:=⟨_,rfl⟩;rw [← hSA] at HC ⊢;obtain ⟨CA,hCA⟩:∃ CA,CA=(Cf.cells c).toArray:=⟨_,rfl⟩;rw [← hCA] at HC;have HSI:=Ib (show (Tryz.prog.info? 24).map (·.size)=some SA.size by rw [hSA];show _=some 16;kernel_rfl);have HCI:=Ib (show (Tryz.prog.info? 34).map (·.size)=some CA.size by rw [hCA];exact tW c);have HCZ:=Ib (show CA.size=16 by rw [hCA];rfl);have HC1:=Ib (show CA.all (·.oneCell')=true by rw [hCA];exact D5 c);have HCA:=Ib hCA;have HR:=Ib r;have HD:=Ib hd;have HF:=Ib hcf
 have hfl:(c.flows.toNat:Int)=c.flows∧c.flows.toNat≤40:=by have:=hcf.1.2.2;omega
 have HFL:=Ib hfl;have HK:=Ib (show (w.alloc (.cells SA 24 (0,0))).heap[w.heap.size]?=some (.cells SA 24 (0,0)) from au _ rfl);have HB0:=Ib (show Below w.heap.size w (w.alloc (.cells SA 24 (0,0))) from (Ic _ _).alloc (Ij _) _);clear hs hd r hcf hc hSA hCA hfl;go_enter Tryz.func13,Tryz.ntmps13;go_wp2_with (first|(refine t7 rfl 24 (.tmp 3) rfl w.heap.size rfl 24 SA (0,0) _ HK.out Tryz.underlying24 rfl HSI.out ?_)|(go_at_call 25;refine (HC.out _).mono ?_;rintro e w1 ⟨rfl,hb1⟩;have hb1':=HB0.out.trans (hb1.mono (by simp));have hz1:=hb1'.size)|(refine IP rfl 34 (.tmp 8) (.tmp 17) rfl w1.heap.size CA rfl rfl 34 _ (au _ rfl) HCI.out (by rw [HCZ.out];rfl) HC1.out ?_)|(refine t7 rfl 34 (.tmp 8) rfl w1.heap.size rfl 34 CA (0,0) _ (aX (au _ rfl)) Tryz.underlying34 rfl HCI.out ?_));refine dv _ (fun wb hwb=>?_)
 have hkb:wb.heap[w1.heap.size]?=some (.cells CA 34 (0,0)):=by rw [hwb];exact aX (au _ rfl)
 have hbb:Below w.heap.size w wb:=by rw [hwb];exact aQ (hb1'.alloc hz1 _) hz1
 have HKb:=Ib hkb;have HBb:=Ib hbb;have hz1b:=lt_of_block hkb;clear hwb hkb hbb hb1 hb1';rw [HCA.out];refine (CK c HF.out wb).mono ?_;rintro e w2 ⟨V,rfl,hk2,hb2⟩;rw [← HCA.out];obtain ⟨WA,hWA⟩:∃ WA,WA=(cQ (di c) V).toArray:=⟨_,rfl⟩;obtain ⟨PA,hPA⟩:∃ PA,PA=(CU c (.slice none 0 0) (di c) V (.slice none 0 0)).toArray:=⟨_,rfl⟩;rw [← hWA];have HWI:=Ib (show (Tryz.prog.info? 54).map (·.size)=some WA.size by rw [hWA];show _=some 26;kernel_rfl);have HWZ:=Ib (show WA.size=26 by rw [hWA];rfl);have HW1:=Ib (show WA.all (·.oneCell')=true by rw [hWA];exact kj hk2);have hkc:=ai hb2 HKb.out hz1b;have HBld:=Ib (show Tryz.prog.built 57 [(0,.agg CA),(2,.agg WA)]=some PA by rw [HCA.out,hWA,hPA];exact El c (di c) V);have HWA:=Ib hWA;have HPA:=Ib hPA;have HKc:=Ib hkc;have hz2:=hb2.size;have hbw:=HBb.out.trans (hb2.mono HBb.out.size);have hzw:=hbw.size;have HBw:=Ib hbw;have HK2:=Ib hk2;have lkc:=lt_of_block hkc;clear hWA hPA hkc hk2 hb2 hbw HKb HBb;obtain ⟨cb,hcb⟩:∃ cb,cb=w1.heap.size:=⟨_,rfl⟩;rw [← hcb] at HKc lkc ⊢;clear hcb hz1 hz1b;go_upto_region 4 with (first|(refine IP rfl 54 (.tmp 9) (.tmp 21) rfl w2.heap.size WA rfl rfl 54 _ (au _ rfl) HWI.out (by rw [HWZ.out];rfl) HW1.out ?_;refine aW _ (fun w3 hw3=>?_);have k39:w3.heap[w2.heap.size]?=some (.cells WA 54 (0,0)):=(by rw [hw3];exact aX (au _ rfl));have k38:w3.heap[cb]?=some (.cells CA 34 (0,0)):=(by rw [hw3];exact (setRow_other _ _ _ _ (by omega)).trans ((If _ _ _ (by omega)).trans HKc.out));have k3b:Below w2.heap.size w2 w3:=(by rw [hw3];exact aQ ((Ic _ _).alloc (Ij _) _) (Ij _));have K39:=Ib k39;have K38:=Ib k38;have K3B:=Ib k3b;clear hw3 k39 k38 k3b)|(refine t7 rfl 34 (.tmp 8) rfl cb rfl 34 CA (0,0) _ K38.out Tryz.underlying34 rfl HCI.out ?_)|(refine t7 rfl 54 (.tmp 9) rfl w2.heap.size rfl 54 WA (0,0) _ K39.out Tryz.underlying54 rfl HWI.out ?_)|(refine rb rfl 57 0 2 (.tmp 23) (.tmp 24) rfl (.agg CA) (.agg WA) rfl rfl PA HBld.out ?_));refine aW _ (fun w4 hw4=>?_)
 have b34:Below w3.heap.size w3 w4:=by rw [hw4];exact (Ic _ _).alloc (Ij _) _
 have k4:w4.heap[w3.heap.size]?=some (.cells PA 57 (0,0)):=by rw [hw4];exact au _ rfl
 have k49:=ai b34 K39.out (lt_of_block K39.out);have k48:=ai b34 K38.out (lt_of_block K38.out);have hwk3:WK (fun _=>True) w3 (di c) V:=HK2.out.keep K3B.out.size (fun b hb _=>K3B.out.block b hb);have hz3:=K3B.out.size
 have hpg:PG w.heap.size w3.heap.size w4 c ⟨[],di c,[]⟩ V [] (.slice none 0 0) (.slice none 0 0):=by
  rw [hw4,HPA.out];exact C3 (by omega) hwk3
 obtain ⟨aT,cT,eT,_⟩:=aj hwk3.ro.ta.1;have hN:(di c).tab.length=c.flows.toNat:=by simp [di,fA]
 rw [hN] at eT;obtain ⟨N,hN2⟩:∃ N,N=c.flows.toNat:=⟨_,rfl⟩
 have hcN:c.flows=(N:Int):=by rw [hN2];exact HFL.out.1.symm
 rw [← hN2] at eT
 have x17:w4.cell? ⟨w2.heap.size,17,none⟩=some (.slice aT N cT):=by rw [aa k49 17,HWA.out,← eT];rfl
 have x0:w4.cell? ⟨cb,0,none⟩=some (.int .i64 (N:Int)):=by rw [aa k48 0,HCA.out,← hcN];rfl
 have hb4:Below w.heap.size w w4:=(HBw.out.trans (K3B.out.mono hzw)).trans (b34.mono (by omega));obtain ⟨p,hp⟩:∃ p,p=w3.heap.size:=⟨_,rfl⟩;rw [← hp] at hpg ⊢;have HP0:=Ib (show PlR w.heap.size p w c (nY (di c) 0) w4 from ⟨hb4,V,[],_,_,hpg⟩);have HR4:=Ib (aq HR.out hb4);clear hw4 b34 k4 k49 k48 hwk3 hpg eT hN hN2 hcN hb4 hp HBld K39 K38 K3B HPA HWA HKc HK2 HBw HWI HWZ HW1 hz2 hz3 hzw lkc;go_wp2_with fail;go_loopw [12] (fun i wr=>∃ k:Nat,k≤3∧i=.int .i64 k∧PlR w.heap.size p w c (nY (di c) k) wr) (fun i _=>3 - (intOf i).toNat)
 case atStart=>exact ⟨0,Ik _,rfl,HP0.out⟩
 case round=>
  obtain ⟨k,hk,rfl,hrl⟩:=hrel;obtain ⟨hbr,Vk,Mk,vsk,vgk,hpg⟩:=hrl;rcases (show k<3∨k=3 by omega) with hlt|rfl
  ·have hlt':(k:Int)<3:=by omega
   have hat:=gs HF.out (k:=k) (by omega);have HDo:=Ib (pR hpg hat.ok (ff (1000+(k:Nat)) (k:Nat) (2+(k:Nat))) (tX hlt) (by rw [hat.len];omega) (by rw [hat.len];exact hat.gl));rw [← gz] at HDo;have HBr:=Ib hbr;clear hpg hat hbr;go_wp2_with (go_at_call 27;go_loud (refine HDo.out.mono ?_;rintro e w5 ⟨V5,M5,vs5,vg5,rfl,hpg5,hb5⟩));go_roundw
   case rel=>exact ⟨k+1,by omega,by go_num,HBr.out.trans hb5,V5,M5,vs5,vg5,hpg5⟩
   case measure=>simp [intOf];omega
  ·have hge:¬ ((3:Nat):Int)<3:=by omega
   have hat:=gs HF.out (k:=3) (by omega);have HDo:=Ib (pR hpg hat.ok gT kQ (by rw [hat.len];omega) (by rw [hat.len];exact hat.gl));rw [← ue] at HDo;have HBr:=Ib hbr;clear hpg hat hbr;go_wp2_with (go_at_call 27;go_loud (refine HDo.out.mono ?_;rintro e w5 ⟨V5,M5,vs5,vg5,rfl,hpg5,hb5⟩));have HP1:=Ib (show PlR w.heap.size p w c (fW (di c) L 0) w5 from ⟨HBr.out.trans hb5,V5,M5,vs5,vg5,hpg5⟩);clear hb5 hpg5 HBr HDo HP0;go_loopw [14,15] (fun o i wr=>∃ k:Nat,k≤L.length∧k≤most∧i=.int .i64 k∧o=.bool true∧PlR w.heap.size p w c (fW (di c) L k) wr) (fun _ i _=>most - (intOf i).toNat)
   case atStart=>exact ⟨0,Ik _,Ik _,rfl,rfl,HP1.out⟩
   case round=>
    obtain ⟨k,hk,hkm,rfl,rfl,hrl⟩:=hrel;obtain ⟨hbr,Vk,Mk,vsk,vgk,hpg⟩:=hrl;have HBr:=Ib hbr;have HPk:=Ib hpg;have hrow:=aq HR.out hbr;clear hpg hbr;rcases (show (k<L.length∧k<most)∨(k<L.length∧k=most)∨k=L.length by omega) with hlt|hq|hq
    ·have h1:(k:Int)<(L.length:Int):=by omega
     have h2:(k:Int)<(most:Int):=by omega
     have k0:(0:Int)≤(k:Int):=by omega
     obtain ⟨_,_,e1,_,_,_,q1⟩:=hrow;simp only [Value.slice.injEq,Iq] at e1;obtain ⟨rfl,-,rfl⟩:=e1;obtain ⟨b2,o2,rfl,hb2,q3⟩:=q1 (by intro e;have:=congrArg List.length e;rw [Iq,List.length_nil] at this;omega);have a0:=q3 k 0 (by simpa using hlt.1) (by omega);have a1:=q3 k 1 (by simpa using hlt.1) (by omega);have a2:=q3 k 2 (by simpa using hlt.1) (by omega);have a3:=q3 k 3 (by simpa using hlt.1) (by omega);have hdk:=HD.out (L.getD k Dd.zero) (by rw [aK hlt.1];exact Iw _);have hat:=jD HF.out L (most:=k) (by omega);have hst:=AD (di c) L hlt.1 Dd.zero
     have hlen:(L.take k).length=k:=by rw [Iz];omega
     rw [jq Dd.cells hlt.1 Dd.zero] at a0 a1 a2 a3;obtain ⟨d,hd⟩:∃ d,d=L.getD k Dd.zero:=⟨_,rfl⟩;rw [← hd] at a0 a1 a2 a3 hdk hst;obtain ⟨d0,d1,d2,d3⟩:=d;simp only [Dd.cells,Il,Im,Nat.add_zero] at a0 a1 a2 a3
     have hgl:(fW (di c) L k).given.length≤200000:=by have:=hat.gl;omega
     have HEv:=Ib (xQ HPk.out hgl ⟨d0,d1,d2,d3⟩ hdk);obtain ⟨ev,hev⟩:∃ ev,ev=I0 (fW (di c) L k).given ⟨d0,d1,d2,d3⟩:=⟨_,rfl⟩
     have hgd:EvGood ev:=by rw [hev];exact qG hat.ok.gi _
     rw [← hev] at HEv hst;have HSt:=Ib hst;have hal:=hat.len;rw [hlen] at hal
     have hDo:∀ w',Below wr.heap.size wr w'→Calls Tryz.prog 27 #[.pointer (some ⟨p,0,none⟩),.agg (Ev.cells ev).toArray] w' (zW w.heap.size p w' c (fW (di c) L (k+1))):=fun w' hb'=>by
      rw [HSt.out];exact pR (HPk.out.below hb') hat.ok ev hgd (by omega) (by rw [hal];have:=hat.gl;omega)
     have HDo:=Ib hDo;clear hd hev hst hat hDo hdk hgl hlen hal q3 q1;go_wp2_with (first|(go_at_call 28;refine HEv.out.mono ?_;rintro e w6 ⟨rfl,hb6⟩)|(go_at_call 27;refine (HDo.out _ hb6).mono ?_;rintro e w7 ⟨V7,M7,vs7,vg7,rfl,hpg7,hb7⟩));go_roundw
     case rel=>exact ⟨k+1,by omega,by omega,by go_num,rfl,(HBr.out.trans (hb6.mono HBr.out.size)).trans hb7,V7,M7,vs7,vg7,hpg7⟩
     case measure=>simp [intOf];omega
    ·have h1:(k:Int)<(L.length:Int):=by omega
     have h2:¬ (k:Int)<(most:Int):=by omega
     obtain rfl:most=k:=hq.2.symm;go_wp2;go_ret2;exact ⟨p,Vk,Mk,vsk,vgk,rfl,HPk.out,HBr.out⟩
    ·have h1:¬ (k:Int)<(L.length:Int):=by omega
     go_wp2;go_ret2
     have he:fW (di c) L most=fW (di c) L k:=by unfold fW;rw [Iv (by omega:L.length≤most),Iv (by omega:L.length≤k)]
     exact ⟨p,Vk,Mk,vsk,vgk,rfl,by rw [he];exact HPk.out,HBr.out⟩
theorem PG.rd {B p:Nat} {w:World} {c:Cf} {P:kY} {VL:Vs} {MS:List Ms} {vs vg:Value} (h:PG B p w c P VL MS vs vg) :
  ∃ a cp,w.cell? ⟨p,16,none⟩=some (.slice a P.steps.length cp)∧(P.steps.length≠0→∃ b o,a=some ⟨b,o,none⟩∧b<w.heap.size∧∀ i,i<P.steps.length→w.rangeAt b (o+i*61) (lc (P.steps.getD i Stp.zero) (MS.getD i Ms.zero))):=by
 obtain ⟨a,cp,rfl,_⟩:=aB h.os
 have hr:=(aC h.os (me h.ml) (Fw _ _)).1
 refine ⟨a,cp,by rw [aa h.bk 16];rfl,fun hne=>?_⟩
 obtain ⟨_,_,e1,_,_,_,q1⟩:=hr
 injection e1 with e1 _ _
 obtain ⟨b,o,rfl,hb,q⟩:=q1 (by intro e;have:=me h.ml;rw [e] at this;exact hne this.symm)
 refine ⟨b,o,e1,hb,fun i hi j v hj=>?_⟩
 have hj61:j<61:=by
  rcases Nat.lt_or_ge j 61 with g|g
  ·exact g
  ·rw [IB (by rw [kF];exact g)] at hj
   cases hj
 rw [q i j (by rw [me h.ml];exact hi) hj61,Co h.ml hi,hj]
theorem tM {K:Nat→Prop} {w:World} {s:Stp} {m:Ms} (h:StW K w s m):(lc s m).toArray.all (·.oneCell')=true:=by
 obtain ⟨a,c,e,_⟩:=aj h.o.1;rw [Array.all_eq_true_iff_forall_mem];intro u hu;refine tN s.ev a (s.out.length) c h.b h.a u ?_;unfold lc at hu ⊢;simp only [List.mem_toArray] at hu;rw [e] at hu;exact hu
theorem tV (s:Stp) (m:Ms):(Tryz.prog.info? 62).map (·.size)=some (lc s m).length:=by rw [kF];kernel_rfl
theorem iB {w w':World} {b o:Nat} {L:List Value} (hb:Below w.heap.size w w') (hlt:b<w.heap.size) (h:w.rangeAt b o L):w'.rangeAt b o L:=fM h (hb.block b hlt)
end
end Go.Proofs.YtocbhafgjepnjaaGreat
