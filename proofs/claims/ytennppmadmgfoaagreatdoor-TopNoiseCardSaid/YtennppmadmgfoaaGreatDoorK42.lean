/- Texts of the row's proof. Conditions: none. -/
import Derived.Test.YtennppmadmgfoaaGreatDoorK41
namespace Go.Proofs.YtennppmadmgfoaaGreatDoor
open Proofs.Tryz
set_option maxRecDepth 100000
set_option maxHeartbeats 8000000
section
open Go.RowKit
def IntRow (B:Nat) (h:List Nat) (w:World) (a:Option Addr) (c:Nat) (L:List Int):Prop:=dj (NI B h) w 1 (.slice a L.length c) (L.map fun x=>[Value.int .i64 x])
theorem IntRow.at_ {B:Nat} {z:List Nat} {w:World} {a:Option Addr} {c:Nat} {L:List Int} (K:IntRow B z w a c L) {k:Nat} (h:k<L.length):∃ b o,a=some ⟨b,o,none⟩/\b<w.heap.size/\w.cell? ⟨b,o+k,none⟩=some (.int .i64 (L.getD k 0)):=by
 obtain ⟨_,_,I,_,_,_,W⟩:=aO (0:Int) K.1;injection I with e01 _ _;obtain ⟨b,o,J,U,Y⟩:=W (by intro E;rw [E] at h;simp at h);have:=Y k 0 h (by omega);rw [Nat.mul_one,Nat.add_zero] at this;exact ⟨b,o,e01.trans J,U,this⟩
def TR2 (B p:Nat) (w:World) (S:List Nat) (X:Wd) (z:Option Addr) (E:Nat) (g I:Nat) (k:Nat) (wr:World):Prop:=∃ h V vo,GA B p w S wr (gC (cE X) k) [] h V vo/\IntRow B h wr z E (eU X)/\V.h=.slice (some ⟨g,0,none⟩) 12 I
def TR3 (B p:Nat) (w:World) (S:List Nat) (X:Wd) (z:Option Addr) (E:Nat) (k:Nat) (wr:World):Prop:=∃ h V vo,GA B p w S wr (gc X k).1 (gc X k).2 h V vo/\IntRow B h wr z E (eU X)
def TR4 (B p:Nat) (w:World) (S:List Nat) (X:Wd) (z:Option Addr) (E:Nat) (k:Nat) (wr:World):Prop:=∃ h V vo,GA B p w S wr (dZ X k).1 (dZ X k).2 h V vo/\dj (NI B h) wr 6 (.slice z (ci X).1.lives.length E) ((ci X).1.lives.map Lf.cells)
def TR5 (B p:Nat) (w:World) (S:List Nat) (X:Wd) (E:Option Addr) (J:Nat) (P:Wd×List Out) (b:Int) (D:List Hd) (z:Option Addr) (I:Nat) (j:Nat) (wr:World):Prop:=∃ h V vo,GA B p w S wr (nN P b j).1 (nN P b j).2 h V vo/\dj (NI B h) wr 6 (.slice E (ci X).1.lives.length J) ((ci X).1.lives.map Lf.cells)/\dj (NI B h) wr 2 (.slice z D.length I) (D.map Hd.cells)
def TR1 (B p:Nat) (w:World) (S:List Nat) (X:Wd) (E:Option Addr) (J:Nat) (z:Option Addr) (I:Nat) (k:Nat) (wr:World):Prop:=∃ h V vo,GA B p w S wr (fL X k) [] h V vo/\IntRow B h wr E J (eU X)/\IntRow B h wr z I (dy X)
theorem zt {B p:Nat} {w:World} {X:Wd} {S:List Nat} {V:Vs} {vo:Value} (h:G B p w X [] S V vo) (hm:BL X) :
  Calls prog 38 #[.pointer (some ⟨p,0,none⟩)] w (GTo B p w S (jk X).1 (jk X).2 (fun _=>True) (.tuple #[])):=by
 have HA0:=KL (GA.start h)
 have HX:=KL hm
 have hp:=h.plt
 have n0:=hm.n0
 have n1:=hm.n1
 have x24:=HA0.out.c 24 (v:=.int .i64 X.now) (by unfold dz;rw [<- hm.wn];rfl)
 have x25:=HA0.out.c 25 (v:=V.w) rfl
 have hl4:lQ w V.w X.lists:=HA0.out.g.gr.1.wh.at_
 obtain ⟨al,cl,el⟩:=bL hl4
 have h25:=hm.wh.2.2.1
 have htot:=hm.wh.tot
 rw [h25] at el
 rw [el] at x25 hl4
 have HWl:=KL hl4
 have HAd:=KL (show AdvAns X.now X.lists (X.now+1) (bP X).lists (eU X) 0 from Or.inr (Or.inr ⟨hm.wh,by omega,rfl,rfl,rfl,rfl⟩))
 obtain ⟨N1,hN1⟩:∃ N1,N1=X.now+1:=⟨_,rfl⟩
 have HN1:=KL hN1
 rw [<- hN1] at HAd
 have hN0:0<=N1:=by omega
 have hN2:N1<=1099511626776:=by omega
 have hle:X.lists.length<=1048576:=by omega
 have hwl12:(dy X).length<=12:=Lz (DX X) hm.bk.1
 have hof200:(eU X).length<=200:=Lz (xG X) htot
 have hle2:X.lists.flatten.length<=1048576:=by omega
 clear h hm hl4 el h25 hN1
 go_in
 go_wp2_with fail
 refine (uQ _ X.now X.lists _ HWl.out hle hle2 _ _ _ _ HAd.out).mono ?_
 rintro e w1 ⟨v1,vf,rfl,hl1,Rf,hb1⟩
 obtain ⟨aw,cw,rfl⟩:=bL hl1.at_
 obtain ⟨af,cf_,rfl,_⟩:=ap Rf.1
 have HA1:=KL (HA0.out.below hb1)
 have hp1:=HA1.out.plt
 have HKw:=KL (je (jS hl1) (fun b _ hB=>⟨fun hS=>by have:=HA0.out.g.sl b hS;omega,by have:=HA0.out.g.pB;have:=HA0.out.g.plt;omega⟩):LsK (NI B S) w1 (.slice aw (bP X).lists.length cw) (bP X).lists)
 have HRf:=KL (show IntRow B S w1 af cf_ (eU X) from dv HA0.out.g Rf (KY _))
 have x24:=ah hb1 x24 hp
 have x25:=ah hb1 x25 hp
 have x16:=HA1.out.c 16 (v:=.int .i64 X.now) rfl
 have xf:∀ n,w1.frozen? ⟨p,n,none⟩=false:=fun n=>HA1.out.free n
 have z1:¬ w1.heap.size=p:=by omega
 have z2:¬ p=w1.heap.size:=by omega
 have iw:IntKind.i64.wrap (X.now+1)=N1:=by rw [HN1.out,IntKind.wrap_i64];omega
 clear hl1 Rf hb1
 go_wp2_with fail
 refine bA _ (fun w2 hw2=>?_)
 have A2:=HA1.out.cell 24 (.int .i64 N1) { X with wnow:=N1 } V rfl rfl rfl rfl rfl rfl { HA1.out.g.ro with }
 have A2:=A2.cell 25 (.slice aw (bP X).lists.length cw) { X with wnow:=N1,lists:=(bP X).lists } { V with w:=.slice aw (bP X).lists.length cw } rfl rfl rfl rfl rfl rfl { A2.g.ro with wh:=gu HKw.out (by simp) (fun b' _ hb'=>KV _ _ _ _ (fun e=>hb'.1 (by have e':b'=p:=e;rw [e'];exact HA1.out.g.sp))) }
 have A2:=A2.cell 16 (.int .i64 N1) { X with now:=N1,wnow:=N1,lists:=(bP X).lists } { V with w:=.slice aw (bP X).lists.length cw } rfl rfl rfl rfl rfl rfl { A2.g.ro with }
 have hpS:=HA1.out.g.sp
 have f2:Fr S w1 w2:=by rw [hw2];exact ((((di hpS _ _).trans (di hpS _ _) (fun _ hx=>Or.inl hx)).trans (di hpS _ _) (fun _ hx=>Or.inl hx)).trans (Fr.of_below ((KM _ _).alloc (KY _) _)) (fun _ hx=>Or.inl hx))
 have A2:=A2.below ((KM _ _).alloc (KY _) (.cells #[.int .i64 N1,.slice aw (bP X).lists.length cw] 54))
 rw [<- hw2] at A2
 have HA2:=KL A2
 have HRf2:=KL (show IntRow B S w2 af cf_ (eU X) from bZ HRf.out f2 (fun _ hx=>Or.inl hx))
 have hp2:=HA2.out.plt
 have x16:=HA2.out.c 16 (v:=.int .i64 N1) rfl
 have x19:=HA2.out.c 19 (v:=V.l) rfl
 have x20:=HA2.out.c 20 (v:=V.r) rfl
 obtain ⟨al,cl,el,_⟩:=ap HA2.out.g.gr.1.li.1
 obtain ⟨ar,cr,er,_⟩:=ap HA2.out.g.gr.1.re.1
 simp only at el er
 rw [el] at x19
 rw [er] at x20
 have HL:=KL (show aK w2 6 (.slice al X.lives.length cl) (X.lives.map Lf.cells) from by rw [<- el];exact HA2.out.g.gr.1.li.1)
 have HR:=KL (show aK w2 5 (.slice ar X.reqs.length cr) (X.reqs.map Rq.cells) from by rw [<- er];exact HA2.out.g.gr.1.re.1)
 have HWk:=KL (show Kz X.lives X.reqs N1 (bP X).lives X.reqs (dy X) 0 from Or.inr (Or.inr ⟨HX.out.bk,hN0,by omega,by rw [HN1.out];rfl,rfl,rfl,rfl⟩))
 clear A2 hw2 f2 el er x24 x25 xf z1 z2 iw HRf HKw
 refine join8 (P:=?jP1) (F:=fun (nb:Nat) (a1:Option Addr) (c1:Nat) (a2:Option Addr) (c2:Nat) (a3:Option Addr) (c3:Nat) wz=>Below w2.heap.size w2 wz/\wz.heap[nb]?=some (.cells #[.slice a1 (bP X).lives.length c1,.slice a2 X.reqs.length c2] 45 (0,0))/\aN w2.heap.size wz 6 (.slice a1 (bP X).lives.length c1) ((bP X).lives.map Lf.cells)/\aN w2.heap.size wz 5 (.slice a2 X.reqs.length c2) (X.reqs.map Rq.cells)/\aN w2.heap.size wz 1 (.slice a3 (dy X).length c3) ((dy X).map fun x=>[Value.int .i64 x])) (fun key=>?jm1) ?jr1
 case jm1=>
  refine Zr (fun w':World=>w'.cell? ⟨p,19,none⟩=some (.slice al X.lives.length cl)/\w'.cell? ⟨p,20,none⟩=some (.slice ar X.reqs.length cr)/\w'.cell? ⟨p,16,none⟩=some (.int .i64 N1)) (fun hHeld=>?_);refine eD 0 ?_;refine dl 8 ?_;refine Z2 10 15 (fun K hK=>?_) (fun K hK=>?_);(focus (go_simp;(go_at_call 73;refine (rh _ _ X.lives X.reqs N1 (bP X).lives X.reqs (dy X) 0 _ (aq HL.out Zb) (aq HR.out Zb) HWk.out).mono ?_;rintro e w3 ⟨v1,v2,v3,rfl,R1,R2,R3,hb3⟩;obtain ⟨a1,c1,rfl,_⟩:=ap R1.1;obtain ⟨a2,c2,rfl,_⟩:=ap R2.1;obtain ⟨a3,c3,rfl,_⟩:=ap R3.1;have hz3:=hb3.size;(try simp at hz3);(try (have bxb:=aj hb3 (cO w2 _) (dP w2 _);have bx0:w3.cell? ⟨w2.heap.size,0,none⟩=some (.slice none 0 0):=ae bxb 0;have bx1:w3.cell? ⟨w2.heap.size,1,none⟩=some (.slice none 0 0):=ae bxb 1;have bxf:∀ n,w3.frozen? ⟨w2.heap.size,n,none⟩=false:=az bxb));(try dsimp only));(try go_wp2_with fail);refine Zk hK fun hHeld=>?_;clear hK K;refine eY 11 ?_;refine Z1 15 (fun K hK=>?_);go_simp;refine Zk hK fun hHeld=>?_;clear hK K));rotate_left 1;(focus (go_simp;refine Zk hK fun hHeld=>?_;clear hK K;refine Z1 10 (fun K hK=>?_);go_simp;(go_at_call 73;refine (rh _ _ X.lives X.reqs N1 (bP X).lives X.reqs (dy X) 0 _ (aq HL.out Zb) (aq HR.out Zb) HWk.out).mono ?_;rintro e w3 ⟨v1,v2,v3,rfl,R1,R2,R3,hb3⟩;obtain ⟨a1,c1,rfl,_⟩:=ap R1.1;obtain ⟨a2,c2,rfl,_⟩:=ap R2.1;obtain ⟨a3,c3,rfl,_⟩:=ap R3.1;have hz3:=hb3.size;(try simp at hz3);(try (have bxb:=aj hb3 (cO w2 _) (dP w2 _);have bx0:w3.cell? ⟨w2.heap.size,0,none⟩=some (.slice none 0 0):=ae bxb 0;have bx1:w3.cell? ⟨w2.heap.size,1,none⟩=some (.slice none 0 0):=ae bxb 1;have bxf:∀ n,w3.frozen? ⟨w2.heap.size,n,none⟩=false:=az bxb));(try dsimp only));(try go_wp2_with fail);refine Zk hK fun hHeld=>?_;clear hK K;refine eY 11 ?_));rotate_left 1;(all_goals (refine Z1 16 (fun K hK=>?_);go_simp;refine Zk hK fun hHeld=>?_;clear hK K;refine dl 17 ?_));(all_goals refine Zd ?_)
  ·refine bA _ (fun wz hwz=>?_)
   have hbz:Below w2.heap.size w2 wz:=by rw [hwz];exact (KS (KN (KM _ _)) (hb3.mono (by simp))).alloc (by omega) _
   have h1:=cX (aJ R1 (show w2.heap.size<=_ by simp)) (.cells #[.slice a1 (bP X).lives.length c1,.slice a2 X.reqs.length c2] 45);have h2:=cX (aJ R2 (show w2.heap.size<=_ by simp)) (.cells #[.slice a1 (bP X).lives.length c1,.slice a2 X.reqs.length c2] 45);have h3:=cX (aJ R3 (show w2.heap.size<=_ by simp)) (.cells #[.slice a1 (bP X).lives.length c1,.slice a2 X.reqs.length c2] 45);rw [<- hwz] at h1 h2 h3;obtain ⟨nb,hnb⟩:∃ nb,nb=w3.heap.size:=⟨_,rfl⟩
   have hnz:wz.heap[nb]?=some (.cells #[.slice a1 (bP X).lives.length c1,.slice a2 X.reqs.length c2] 45 (0,0)):=by rw [hwz];exact aB _ hnb
   rw [<- hnb];exact key nb a1 c1 a2 c2 a3 c3 wz ⟨hbz,hnz,h1,h2,h3⟩
  ·refine bA _ (fun wz hwz=>?_);have hba:Below w2.heap.size w2 w3:=KS (KN ((KM _ _).alloc (KY _) _)) (hb3.mono (by simp));have hle:=KY w2.heap.size
   have hbz:Below w2.heap.size w2 wz:=by rw [hwz];exact (hba.setCell hle _).setCell hle _
   have h1:aN w2.heap.size wz 6 (.slice a1 (bP X).lives.length c1) ((bP X).lives.map Lf.cells):=by rw [hwz];exact aJ (aD (aD R1 (by simp) _) (by simp) _) (by simp)
   have h2:aN w2.heap.size wz 5 (.slice a2 X.reqs.length c2) (X.reqs.map Rq.cells):=by rw [hwz];exact aJ (aD (aD R2 (by simp) _) (by simp) _) (by simp)
   have h3:aN w2.heap.size wz 1 (.slice a3 (dy X).length c3) ((dy X).map fun x=>[Value.int .i64 x]):=by rw [hwz];exact aJ (aD (aD R3 (by simp) _) (by simp) _) (by simp)
   obtain ⟨nb,hnb⟩:∃ nb,nb=w2.heap.size:=⟨_,rfl⟩
   have hnz:wz.heap[nb]?=some (.cells #[.slice a1 (bP X).lives.length c1,.slice a2 X.reqs.length c2] 45 (0,0)):=by rw [hwz,hnb];exact aR (j:=1) (aR (j:=0) bxb (.slice a1 (bP X).lives.length c1)) (.slice a2 X.reqs.length c2)
   rw [<- hnb];exact key nb a1 c1 a2 c2 a3 c3 wz ⟨hbz,hnz,h1,h2,h3⟩
 case jr1=>
  rintro nb a1 c1 a2 c2 a3 c3 wz ⟨hbz,hnz,h1,h2,h3⟩;have HAz:=KL (HA2.out.below hbz);have z0:wz.cell? ⟨nb,0,none⟩=some (.slice a1 (bP X).lives.length c1):=ae hnz 0;have z1:wz.cell? ⟨nb,1,none⟩=some (.slice a2 X.reqs.length c2):=ae hnz 1;have x19:=HAz.out.c 19 (v:=V.l) rfl;have x20:=HAz.out.c 20 (v:=V.r) rfl;have xf:∀ n,wz.frozen? ⟨p,n,none⟩=false:=fun n=>HAz.out.free n;have hpz:=HAz.out.plt;have HK1:=KL (dv HA2.out.g h1 (KY _));have HK2:=KL (dv HA2.out.g h2 (KY _));have HK3:=KL (show IntRow B S wz a3 c3 (dy X) from dv HA2.out.g h3 (KY _));have HRf3:=KL (show IntRow B S wz af cf_ (eU X) from bZ HRf2.out (Fr.of_below hbz:Fr S w2 wz) (fun _ hx=>Or.inl hx));clear hbz hnz h1 h2 h3 x16;go_wp2_with fail;refine bA _ (fun w4 hw4=>?_);have A4:=HAz.out.cell 19 (.slice a1 (bP X).lives.length c1) { X with now:=N1,wnow:=N1,lists:=(bP X).lists,lives:=(bP X).lives } { V with w:=.slice aw (bP X).lists.length cw,l:=.slice a1 (bP X).lives.length c1 } rfl rfl rfl rfl rfl rfl { HAz.out.g.ro with li:=HK1.out };have fz:∀ u,Fr S wz (wz.setCell ⟨p,19,none⟩ u):=fun u=>di hpS 19 u;have A4:=A4.cell 20 (.slice a2 X.reqs.length c2) { X with now:=N1,wnow:=N1,lists:=(bP X).lists,lives:=(bP X).lives } { V with w:=.slice aw (bP X).lists.length cw,l:=.slice a1 (bP X).lives.length c1,r:=.slice a2 X.reqs.length c2 } rfl rfl rfl rfl rfl rfl { A4.g.ro with re:=bZ HK2.out (fz _) (fun _ hx=>Or.inl hx) }
  have f4:Fr S wz w4:=by rw [hw4];exact (fz _).trans (di hpS 20 _) (fun _ hx=>Or.inl hx)
  have e0:({ X with now:=N1,wnow:=N1,lists:=(bP X).lists,lives:=(bP X).lives }:Wd)=fL X 0:=by rw [HN1.out];rfl
  rw [<- hw4,e0] at A4;have HA4:=KL A4;have HR4:=KL (show IntRow B S w4 af cf_ (eU X) from bZ HRf3.out f4 (fun _ hx=>Or.inl hx));have HW4:=KL (show IntRow B S w4 a3 c3 (dy X) from bZ HK3.out f4 (fun _ hx=>Or.inl hx));clear A4 hw4 f4 e0 z0 z1 x19 x20 xf fz HAz HK1 HK2 HK3 HRf3;go_loopw [69] (fun i wr=>∃ k:Nat,k<=(dy X).length/\i=.int .i64 k/\TR1 B p w S X af cf_ a3 c3 k wr) (fun i _=>(dy X).length - (intOf i).toNat)
  case atStart=>exact ⟨0,La _,rfl,S,_,_,HA4.out,HR4.out,HW4.out⟩
  case round=>
   obtain ⟨k,hk,rfl,SA,V1,vo1,A1,R1,W1⟩:=hrel;have HA1:=KL A1;have HR1:=KL R1;have HW1:=KL W1;have hpr:=A1.plt;rcases (show k<(dy X).length\/(dy X).length=k by omega) with hlt|heq
   ·have hlt':(k:Int)<((dy X).length:Int):=by omega
    obtain ⟨b3,o3,rfl,hb3,ck⟩:=W1.at_ hlt;obtain ⟨y,hy⟩:∃ y,y=(dy X).getD k 0:=⟨_,rfl⟩;have hwo:=HX.out.wo k hlt;rw [<- hy] at hwo ck;obtain ⟨y0,y11,⟨x,hx,hx1,hx8⟩,hrg,hlv,hhl,hz0⟩:=hwo;obtain ⟨n,rfl⟩:=Lr y0;rw [Lm] at hz0;have hn12:n<12:=by omega
    have hn12i:(n:Int)<12:=by omega
    have HY:=KL hy;obtain ⟨X1,hX1⟩:∃ X1,X1=fL X k:=⟨_,rfl⟩;have HX1:=KL hX1;rw [<- hX1] at A1 hrg hlv hhl hz0;have hkp:=qD ((dy X).take k) (bP X)
    have hrq:X1.reqs=X.reqs:=by rw [hX1];exact hkp.1
    have HLo:=KL (show yW X1.lives X1.reqs (n:Int) x 0 from by rw [hlv,hrq];exact J5 HX.out.bk2 hx);have HStep:=KL (show fL X (k+1)=gD X1 (n:Int) from by unfold fL;rw [lH _ _ _ 0 hlt,<- hy,hX1];rfl)
    have hwt:pM X1.lives (n:Int)=x.weight:=by unfold pM;rw [hlv,hx];rfl
    have HWt:=KL hwt;obtain ⟨x0,x1,x2,x3,x4,x5⟩:=x;simp only at hx1 hx8;obtain ⟨m,rfl⟩:=Lr (show (0:Int)<=x2 by omega);have HAdd:=KL (show AE X1.ring (n:Int) (m:Int) (bR ((gx X1.ring).set n m)) 0 from Or.inr (Or.inr ⟨n,m,hrg,rfl,hn12,rfl,by omega,by omega,Or.inr ⟨hz0,rfl,rfl⟩⟩));have hrl:=jA hrg;have hrl2:X1.ring.length*16<=140737488351232:=by omega
    have HA2:=KL A1;have x19:=HA2.out.c 19 (v:=V1.l) rfl;have x20:=HA2.out.c 20 (v:=V1.r) rfl;obtain ⟨al,cl,el,_⟩:=ap HA2.out.g.gr.1.li.1;obtain ⟨ar,cr,er,_⟩:=ap HA2.out.g.gr.1.re.1;rw [el] at x19;rw [er] at x20;have HL:=KL HA2.out.g.gr.1.li.1;have HR:=KL HA2.out.g.gr.1.re.1;rw [el] at HL;rw [er] at HR;have HHl:=KL hhl;clear hX1 hy R1 W1 A1 hrq hkp hwt hx hlv hrg hz0 hrl el er hhl y11;go_wp2_with (go_at_call 74;refine (iP _ _ X1.lives X1.reqs (n:Int) ⟨x0,x1,(m:Int),x3,x4,x5⟩ 0 _ HL.out HR.out HLo.out).mono ?_;rintro e w5 ⟨he,hb5⟩;simp only [Lf.agg] at he;subst he);refine bA _ (fun w6 hw6=>?_)
    have b6:Below wr.heap.size wr w6:=by rw [hw6];exact hb5.alloc hb5.size _
    obtain ⟨bl,hbl⟩:∃ bl,bl=w5.heap.size:=⟨_,rfl⟩
    have hl6:w6.heap[bl]?=some (.cells #[.int .i64 x0,.int .i64 x1,.int .i64 (m:Int),.int .i64 x3,.int .i64 x4,.int .i64 x5] 173 (0,0)):=by rw [hw6];exact aB _ hbl
    have nbl:bl≠p:=by have:=hb5.size;omega
    rw [<- hbl];have l2:w6.cell? ⟨bl,2,none⟩=some (.int .i64 (m:Int)):=ae hl6 2;have HA6:=KL (HA2.out.below b6);have HR6:=KL (show IntRow B SA w6 af cf_ (eU X) from bZ HR1.out (Fr.of_below b6:Fr SA wr w6) (fun _ hx=>Or.inl hx));have HW6:=KL (show IntRow B SA w6 (some ⟨b3,o3,none⟩) c3 (dy X) from bZ HW1.out (Fr.of_below b6:Fr SA wr w6) (fun _ hx=>Or.inl hx));have x21:=HA6.out.c 21 (v:=V1.s) rfl;obtain ⟨ag,cg,eg,_⟩:=ap HA6.out.g.gr.1.sp.1;rw [eg] at x21;have HSp:=KL HA6.out.g.gr.1.sp.1;rw [eg] at HSp;have hp6:=HA6.out.plt;have xf:∀ n,w6.frozen? ⟨p,n,none⟩=false:=fun n=>HA6.out.free n;clear hw6 hbl b6 hb5 x19 x20 eg hl6;refine Zr (fun w':World=>w'.cell? ⟨bl,2,none⟩=some (.int .i64 (m:Int))) (fun hHeld=>?_);refine eY 0 ?_;refine Zt 4 ?_;refine dl 6 ?_;refine Zt 8 ?_;refine Z1 5 (fun K hK=>?_);go_simp;refine Zk hK fun hHeld=>?_;clear hK K;refine Z1 9 (fun K hK=>?_);go_simp;(go_at_call 75;refine (ri _ X1.ring _ _ _ _ _ (aq HSp.out Zb) hrl2 HAdd.out).mono ?_;rintro e w7 ⟨v7,rfl,R7,hb7⟩;obtain ⟨a7,c7,rfl,_⟩:=ap R7.1;have bw7:Below w6.heap.size w6 w7:=KS (KN (KM w6.heap.size w6)) (hb7.mono (by simp));have x21:=ah bw7 x21 hp6;have xf:∀ n,w7.frozen? ⟨p,n,none⟩=false:=(fun n=>(bw7.frozen (p:=⟨p,n,none⟩) hp6).trans (xf n));(try dsimp only));(try go_wp2_with fail);refine Zk hK fun hHeld=>?_;clear hK K;refine eY 10 ?_;refine dl 14 ?_;refine Z1 16 (fun K hK=>?_);go_simp;refine Zk hK fun hHeld=>?_;clear hK K;refine Zd ?_;refine bA _ (fun w8 hw8=>?_);obtain ⟨ws,hws⟩:∃ ws,ws=bR ((gx X1.ring).set n m):=⟨_,rfl⟩;rw [<- hws] at R7 hw8;have HWs:=KL hws;have A7:=HA6.out.below bw7;have A8:=A7.cell 21 (.slice a7 ws.length c7) { X1 with ring:=ws } { V1 with s:=.slice a7 ws.length c7 } rfl rfl rfl rfl rfl rfl { A7.g.ro with sp:=dv HA6.out.g R7 (by simp) }
    have f8:Fr SA w6 w8:=by rw [hw8];exact (Fr.of_below bw7:Fr SA w6 w7).trans (di HA6.out.g.sp 21 _) (fun _ hx=>Or.inl hx)
    rw [<- hw8] at A8;have HA8:=KL A8;have HR8:=KL (show IntRow B SA w8 af cf_ (eU X) from bZ HR6.out f8 (fun _ hx=>Or.inl hx));have HW8:=KL (show IntRow B SA w8 (some ⟨b3,o3,none⟩) c3 (dy X) from bZ HW6.out f8 (fun _ hx=>Or.inl hx))
    have hn8:n<X1.health.length:=by rw [HHl.out];exact hn12
    obtain ⟨g,ch,eh,hg1,hg2,hg3,hg4,hg5⟩:=HA8.out.hrow (by intro e;simp only at e;rw [e] at hn8;simp at hn8);have x22:=HA8.out.c 22 (v:=V1.h) rfl;simp only at eh hg5;rw [HHl.out] at eh;rw [eh] at x22;have HEh:=KL eh;have q0:w8.cell? ⟨g,n*4,none⟩=some (V1.m.getD n undef):=hg5 n hn8 0 (by omega);have q1:w8.cell? ⟨g,n*4+1,none⟩=some (.bool (X1.health.getD n Ht.zero).out):=hg5 n hn8 1 (by omega);have q2:w8.cell? ⟨g,n*4+2,none⟩=some (.int .i64 (X1.health.getD n Ht.zero).until_):=hg5 n hn8 2 (by omega);have q3:w8.cell? ⟨g,n*4+3,none⟩=some (.int .i64 (X1.health.getD n Ht.zero).times):=hg5 n hn8 3 (by omega);have hA9:=HA8.out.hset (by rw [HEh.out]) n hn8 ⟨[],false,0,0⟩ (.slice none 0 0) ⟨iG _ _,fun b o n c e _=>by cases e⟩
    have hX9:({ X1 with ring:=ws,health:=X1.health.set n Ht.zero }:Wd)=fL X (k+1):=by rw [HStep.out];unfold gD;rw [HWt.out,Lm,Lm,<- HWs.out]
    have f9:Fr SA w8 ((((w8.setCell ⟨g,n*4,none⟩ (.slice none 0 0)).setCell ⟨g,n*4+1,none⟩ (.bool false)).setCell ⟨g,n*4+2,none⟩ (.int .i64 0)).setCell ⟨g,n*4+3,none⟩ (.int .i64 0)):=(((di hg3 _ _).trans (di hg3 _ _) (fun _ hx=>Or.inl hx)).trans (di hg3 _ _) (fun _ hx=>Or.inl hx)).trans (di hg3 _ _) (fun _ hx=>Or.inl hx);have HA9:=KL hA9;have HX9:=KL hX9;have HF9:=KL f9;clear hw8 A7 A8 f8 bw7 hb7 x21 xf R7 hws eh hg5 hA9 hX9 f9 l2;go_wp2;go_roundw
    case rel=>
     refine ⟨k+1,by omega,by go_num,SA,{ V1 with s:=.slice a7 ws.length c7,m:=V1.m.set n (.slice none 0 0) },vo1,?_,bZ HR8.out HF9.out (fun _ hx=>Or.inl hx),bZ HW8.out HF9.out (fun _ hx=>Or.inl hx)⟩;rw [<- HX9.out];exact HA9.out
    case measure=>simp [intOf];omega
   ·have hge:¬ (k:Int)<((dy X).length:Int):=by omega
    have e1:fL X k=cE X:=by rw [<- heq];exact jw _ _ _
    rw [e1] at A1;obtain ⟨g,ch,eh,hg1,hg2,hg3,hg4,hg5⟩:=A1.hrow (by intro e;have:=HX.out.hl1;rw [e] at this;simp at this);rw [HX.out.hl1] at eh;have HA2:=KL A1;have HEh:=KL eh;have x22:=HA2.out.c 22 (v:=V1.h) rfl;rw [eh] at x22;have hkp:=qD (dy X) (bP X);have hcf:(cE X).cf=X.cf:=hkp.2.1
    have hnw:(cE X).now=N1:=by rw [HN1.out];exact hkp.2.2
    have HCf:=KL hcf;have HNw:=KL hnw;clear A1 R1 W1 HA1 e1 eh hg4 hg5 hkp hcf hnw HW1 heq;go_wp2_with fail;go_loopw [114] (fun i wr=>∃ k:Nat,k<=12/\i=.int .i64 k/\TR2 B p w S X af cf_ g ch k wr) (fun i _=>12 - (intOf i).toNat)
    case atStart=>exact ⟨0,by omega,rfl,SA,V1,vo1,by rw [back_0];exact HA2.out,HR1.out,HEh.out⟩
    case round=>
     obtain ⟨j,hj,rfl,SB,V2,vo2,A3,R3,eh⟩:=hrel;have HA3:=KL A3;have HR3:=KL R3;have HEh3:=KL eh;have hpq:=A3.plt;rcases (show j<12\/j=12 by omega) with hlt|rfl
     ·have hlt':(j:Int)<12:=by omega
      have j0:(0:Int)<=(j:Int):=by omega
      have hln:(gC (cE X) j).health.length=12:=by rw [DK];exact HX.out.hl1
      have hj8:j<(gC (cE X) j).health.length:=by omega
      obtain ⟨g',ch',eh',hg1',hg2',hg3',hg4',hg5'⟩:=A3.hrow (by intro e;rw [e] at hj8;simp at hj8);rw [eh] at eh'
      obtain rfl:g=g':=by injection eh' with e _ _;injection e with e;injection e with e
      clear eh';have hat:=Hf (cE X) (k:=j) (by rw [HX.out.hl1];exact hlt);have hmr:=A3.g.ro.mr j hj8;rw [hat] at hmr;have hb0:=HX.out.ba j hlt;have h9:=hg5' j hj8;rw [hat] at h9;obtain ⟨M,hM⟩:∃ M,M=(cE X).health.getD j Ht.zero:=⟨_,rfl⟩;rw [<- hM] at hmr hb0 h9;have hstp:=Ap (cE X) (k:=j) (by rw [HX.out.hl1];exact hlt);rw [<- hM,HNw.out] at hstp;have HStp:=KL hstp;have hba:=BI X.cf M N1 (by rw [HN1.out];exact hb0);obtain ⟨came,hba⟩:=hba;obtain ⟨M2,hM2⟩:∃ M2,M2=fQ N1 M:=⟨_,rfl⟩;rw [<- hM2] at hba;have HM2:=KL hM2;obtain ⟨mv,hmv⟩:∃ mv,mv=V2.m.getD j undef:=⟨_,rfl⟩;rw [<- hmv] at hmr h9;obtain ⟨am,cm,rfl,_⟩:=fC hmr.1;have hT:=(fJ hb0).2.2.2.1;have hW:=(fJ hb0).1.2.1;obtain ⟨M_,out_,u_,t_⟩:=M;obtain ⟨N_,o2_,u2_,t2_⟩:=M2;simp only at hba hmr hb0 h9 hT;have HMl:=KL (show M_.length<=140737488351232 by omega);have HBa:=KL hba;have HMr:=KL hmr.1;have q0:wr.cell? ⟨g,j*4,none⟩=some (.slice am M_.length cm):=h9 0 (by omega);have q1:wr.cell? ⟨g,j*4+1,none⟩=some (.bool out_):=h9 1 (by omega);have q2:wr.cell? ⟨g,j*4+2,none⟩=some (.int .i64 u_):=h9 2 (by omega);have q3:wr.cell? ⟨g,j*4+3,none⟩=some (.int .i64 t_):=h9 3 (by omega);clear hln A3 R3 eh hg4' hg5' hmr hb0 h9 hM hba hM2 hmv hstp hat hT;go_wp2_with fail;refine bA _ (fun w5 hw5=>?_)
      have b5:Below wr.heap.size wr w5:=by rw [hw5];exact (KM _ _).alloc (KY _) _
      obtain ⟨bh,hbh⟩:∃ bh,bh=wr.heap.size:=⟨_,rfl⟩
      have hh5:w5.heap[bh]?=some (.cells #[.slice am M_.length cm,.bool out_,.int .i64 u_,.int .i64 t_] 162 (0,0)):=by rw [hw5];exact aB _ hbh
      have nbg:¬ bh=g:=by omega
      have ngb:¬ g=bh:=by omega
      rw [<- hbh];have HA5:=KL (HA3.out.below b5);have HR5:=KL (show IntRow B SB w5 af cf_ (eU X) from bZ HR3.out (Fr.of_below b5:Fr SB wr w5) (fun _ hx=>Or.inl hx));have HM5:=KL (aq HMr.out b5);have y0:w5.cell? ⟨bh,0,none⟩=some (.slice am M_.length cm):=ae hh5 0;have y1:w5.cell? ⟨bh,1,none⟩=some (.bool out_):=ae hh5 1;have y2:w5.cell? ⟨bh,2,none⟩=some (.int .i64 u_):=ae hh5 2;have y3:w5.cell? ⟨bh,3,none⟩=some (.int .i64 t_):=ae hh5 3;have q0:=ah b5 q0 hg1';have q1:=ah b5 q1 hg1';have q2:=ah b5 q2 hg1';have q3:=ah b5 q3 hg1'
      have hg5:g<w5.heap.size:=by have:=b5.size;omega
      have hp5:=HA5.out.plt;have x22:=HA5.out.c 22 (v:=V2.h) rfl;rw [HEh3.out] at x22
      have x13:w5.cell? ⟨p,13,none⟩=some (.int .i64 X.cf.ww):=by have:=HA5.out.c 13 (v:=.int .i64 (cE X).cf.ww) rfl;rw [HCf.out] at this;exact this
      have x14:w5.cell? ⟨p,14,none⟩=some (.int .i64 X.cf.wf):=by have:=HA5.out.c 14 (v:=.int .i64 (cE X).cf.wf) rfl;rw [HCf.out] at this;exact this
      have x15:w5.cell? ⟨p,15,none⟩=some (.int .i64 X.cf.wh):=by have:=HA5.out.c 15 (v:=.int .i64 (cE X).cf.wh) rfl;rw [HCf.out] at this;exact this
      have x16:w5.cell? ⟨p,16,none⟩=some (.int .i64 N1):=by have:=HA5.out.c 16 (v:=.int .i64 (cE X).now) rfl;rw [HNw.out] at this;exact this
      have gf:∀ n,w5.frozen? ⟨g,n,none⟩=false:=fun n=>by obtain ⟨_,_,e,_,_,_,f,_⟩:=HA5.out.hrow (by intro e;rw [e] at hj8;simp at hj8);rw [HEh3.out] at e;injection e with e _ _;injection e with e;injection e with e;rw [e];exact f n
      clear hw5 hbh b5 hh5;refine Zr (fun w':World=>w'.cell? ⟨p,22,none⟩=some (.slice (some ⟨g,0,none⟩) 12 ch)/\w'.cell? ⟨p,13,none⟩=some (.int .i64 X.cf.ww)/\w'.cell? ⟨p,14,none⟩=some (.int .i64 X.cf.wf)/\w'.cell? ⟨p,15,none⟩=some (.int .i64 X.cf.wh)/\w'.cell? ⟨p,16,none⟩=some (.int .i64 N1)/\w'.cell? ⟨bh,0,none⟩=some (.slice am M_.length cm)/\w'.cell? ⟨bh,1,none⟩=some (.bool out_)/\w'.cell? ⟨bh,2,none⟩=some (.int .i64 u_)/\w'.cell? ⟨bh,3,none⟩=some (.int .i64 t_)) (fun hHeld=>?_);refine eD 0 ?_;refine eD 8 ?_;refine dl 16 ?_;refine Z1 18 (fun K hK=>?_);go_simp;(go_at_call 51;refine (rk _ _ _ M_ out_ u_ t_ N1 N_ o2_ u2_ t2_ came 0 _ _ (aq HM5.out Zb) HMl.out HBa.out).mono ?_;rintro e w6 ⟨v6,rfl,R6,hb6⟩;obtain ⟨a6,c6,rfl,_⟩:=fC R6.1;have bw6:Below w5.heap.size w5 w6:=KS (KN (KM w5.heap.size w5)) (hb6.mono (by simp));have q0:=ah bw6 q0 hg5;have q1:=ah bw6 q1 hg5;have q2:=ah bw6 q2 hg5;have q3:=ah bw6 q3 hg5;have gf:∀ n,w6.frozen? ⟨g,n,none⟩=false:=(fun n=>(bw6.frozen (p:=⟨g,n,none⟩) hg5).trans (gf n));(try dsimp only));(try go_wp2_with fail);refine Zk hK fun hHeld=>?_;clear hK K;refine eY 19 ?_;refine Zt 23 ?_;refine Z1 24 (fun K hK=>?_);go_simp;refine Zk hK fun hHeld=>?_;clear hK K;refine Zd ?_;refine bA _ (fun w7 hw7=>?_);have A6:=HA5.out.below bw6;have A7:=A6.hset (by rw [HEh3.out]) j hj8 ⟨N_,o2_,u2_,t2_⟩ (.slice a6 N_.length c6) (dv HA5.out.g R6 (by simp));rw [<- hw7] at A7
      have f7:Fr SB w5 w7:=by rw [hw7];exact (Fr.of_below bw6:Fr SB w5 w6).trans ((((di hg3' _ _).trans (di hg3' _ _) (fun _ hx=>Or.inl hx)).trans (di hg3' _ _) (fun _ hx=>Or.inl hx)).trans (di hg3' _ _) (fun _ hx=>Or.inl hx)) (fun _ hx=>Or.inl hx)
      have eX:({ gC (cE X) j with health:=(gC (cE X) j).health.set j ⟨N_,o2_,u2_,t2_⟩ }:Wd)=gC (cE X) (j+1):=by
       rw [HM2.out,<- HStp.out]
       rfl
      rw [eX] at A7;have HA7:=KL A7;have HR7:=KL (show IntRow B SB w7 af cf_ (eU X) from bZ HR5.out f7 (fun _ hx=>Or.inl hx));clear hw7 A6 A7 f7 eX bw6 hb6 R6 q0 q1 q2 q3 y0 y1 y2 y3 x22 x13 x14 x15 x16 gf;go_wp2;go_roundw
      case rel=>exact ⟨j+1,by omega,by go_num,SB,{ V2 with m:=V2.m.set j (.slice a6 N_.length c6) },vo2,HA7.out,HR7.out,HEh3.out⟩
      case measure=>simp [intOf];omega
     ·have hge2:¬ ((12:Nat):Int)<12:=by omega
      have e2:gC (cE X) 12=j5 X:=He _ HX.out.hl1;have A4:=HA3.out;rw [e2] at A4;have HA4:=KL A4;clear A3 R3 eh A4 e2 HA3 HEh3;go_wp2_with fail;go_loopw [146] (fun i wr=>∃ k:Nat,k<=(eU X).length/\i=.int .i64 k/\TR3 B p w S X af cf_ k wr) (fun i _=>(eU X).length - (intOf i).toNat)
      case atStart=>exact ⟨0,La _,rfl,SB,V2,vo2,HA4.out,HR3.out⟩
      case round=>
       obtain ⟨k,hk,rfl,SC,V3,vo3,A5,R5⟩:=hrel;have HA5:=KL A5;have HR5:=KL R5;have hpq:=A5.plt;rcases (show k<(eU X).length\/(eU X).length=k by omega) with hlt|heq
       ·have hlt':(k:Int)<((eU X).length:Int):=by omega
        obtain ⟨b3,o3,rfl,hb3,ck⟩:=R5.at_ hlt;obtain ⟨y,hy⟩:∃ y,y=(eU X).getD k 0:=⟨_,rfl⟩;have hdu:=HX.out.du k hlt;rw [<- hy] at hdu ck
        have hstp:gc X (k+1)=mH (gc X k) y:=by unfold gc;rw [lH _ _ _ 0 hlt,<- hy]
        obtain ⟨P,hP⟩:∃ P,P=gc X k:=⟨_,rfl⟩;rw [<- hP] at hdu A5 hstp;obtain ⟨hgw,⟨hfo,hfi⟩,hol⟩:=hdu;obtain ⟨i,hi⟩:∃ i,i=fj P.1 y:=⟨_,rfl⟩;rw [<- hi] at hfo hfi;have h40:=hgw.len;have HGw:=KL hgw;have HFo:=KL hfo;have HSt:=KL hstp;have HI:=KL hi;have HA6:=KL A5;have i0:(0:Int)<=(i:Int):=by omega
        have i1:(i:Int)<(P.1.flows.length:Int):=by omega
        obtain ⟨f,hf⟩:∃ f,P.1.flows.getD i Fl.zero=f:=⟨_,rfl⟩
        have hfm:f∈P.1.flows:=by rw [<- hf,aQ hfi];exact Lp hfi
        have HF:=KL hf;have HFm:=KL hfm;clear hP hy hi hgw hfo hstp A5 R5 HA5 hf hfm;go_wp2_with fail;have hfd:=mw HA6.out.g.gr y (by omega);rw [HFo.out] at hfd;refine hfd.mono ?_;rintro e w5 ⟨rfl,hb5⟩;have HA7:=KL (HA6.out.below hb5);have HR7:=KL (show IntRow B SC w5 (some ⟨b3,o3,none⟩) cf_ (eU X) from bZ HR5.out (Fr.of_below hb5:Fr SC wr w5) (fun _ hx=>Or.inl hx));obtain ⟨g3,c3_,ev⟩:=HA7.out.shape (by intro e;rw [e] at hfi;simp at hfi);obtain ⟨_,k1,k2,k3,k4,k5⟩:=HA7.out.flow ev hfi HF.out;obtain ⟨f0,f1,f2,f3,f4,f5,f6⟩:=f;have d4:w5.cell? ⟨g3,i*7+4,none⟩=some (.bool f4):=k5 4 (by omega);have x18:=HA7.out.c 18 (v:=V3.f) rfl;rw [ev] at x18;have hp5:=HA7.out.plt;clear hfd hb5 ev k5
        cases f4 with
        | true=>
         go_wp2_with fail;refine (iC HA7.out.g i hfi (by omega) ⟨6,0,0,0,0,0,1⟩ _ HF.out _ (HGw.out.drop HFm.out) (HGw.out.tabd HFm.out) HGw.out.bk HGw.out.wh HGw.out.wn (by omega)).mono ?_;rintro e w6 hc6;obtain ⟨S6,V6,vo6,rfl,A8,_,hr8⟩:=HA7.out.call2 hc6;have HA8:=KL A8;have HR8:=KL (show IntRow B S6 w6 (some ⟨b3,o3,none⟩) cf_ (eU X) from hr8 _ _ _ HR7.out);have HE:=KL (show gc X (k+1)=((gV P.1 i 6 1).1,P.2++(gV P.1 i 6 1).2) from by rw [HSt.out];unfold mH;rw [<- HI.out,HF.out,if_pos rfl]);clear A8 hc6 hr8;go_wp2;go_roundw
         case rel=>
          refine ⟨k+1,by omega,by go_num,S6,V6,vo6,?_,HR8.out⟩;rw [HE.out];simp only;rw [Dw HF.out,Dv HF.out];exact HA8.out
         case measure=>simp [intOf];omega
        | false=>
         go_wp2_with fail;refine (mV HA7.out.g HGw.out i hfi 5 (by omega)).mono ?_;rintro e w6 hc6;obtain ⟨S6,V6,vo6,rfl,A8,_,hr8⟩:=HA7.out.call2 hc6;have HA8:=KL A8;have HR8:=KL (show IntRow B S6 w6 (some ⟨b3,o3,none⟩) cf_ (eU X) from hr8 _ _ _ HR7.out);have HE:=KL (show gc X (k+1)=((fg P.1 i 5).1,P.2++(fg P.1 i 5).2) from by rw [HSt.out];unfold mH;rw [<- HI.out,HF.out,if_neg (by simp)]);clear A8 hc6 hr8;go_wp2;go_roundw
         case rel=>
          refine ⟨k+1,by omega,by go_num,S6,V6,vo6,?_,HR8.out⟩;rw [HE.out];exact HA8.out
         case measure=>simp [intOf];omega
       ·have hge3:¬ (k:Int)<((eU X).length:Int):=by omega
        have e3:gc X k=ci X:=by rw [<- heq];exact jw _ _ _
        rw [e3] at A5;have HA6:=KL A5;clear A5 R5 HA5 e3 heq HR5;have x19:=HA6.out.c 19 (v:=V3.l) rfl;obtain ⟨al,cl,el,hal⟩:=ap HA6.out.g.gr.1.li.1;rw [el] at x19;have HLv:=KL (show dj (NI B SC) wr 6 (.slice al (ci X).1.lives.length cl) ((ci X).1.lives.map Lf.cells) from by rw [<- el];exact HA6.out.g.ro.li);have hL12:=HX.out.b3.1;clear el hal;go_wp2_with fail;go_loopw [177] (fun i wr=>∃ k:Nat,k<=(ci X).1.lives.length/\i=.int .i64 k/\TR4 B p w S X al cl k wr) (fun i _=>(ci X).1.lives.length - (intOf i).toNat)
        case atStart=>exact ⟨0,La _,rfl,SC,V3,vo3,HA6.out,HLv.out⟩
        case round=>
         obtain ⟨k,hk,rfl,SD,V4,vo4,A7,L7⟩:=hrel;have HA7:=KL A7;have HL7:=KL L7;have hpq:=A7.plt;rcases (show k<(ci X).1.lives.length\/(ci X).1.lives.length=k by omega) with hlt|heq
         ·have hlt':(k:Int)<((ci X).1.lives.length:Int):=by omega
          obtain ⟨bl,ol,rfl,hbl,q⟩:∃ bl ol,al=some ⟨bl,ol,none⟩/\bl<wr.heap.size/\∀ i j,i<(ci X).1.lives.length->j<6->wr.cell? ⟨bl,ol+i*6+j,none⟩=((ci X).1.lives.getD i Lf.zero).cells[j]?:=by
           obtain ⟨_,_,e0,_,_,_,pt⟩:=aO Lf.zero L7.1;injection e0 with e01 _ _;obtain ⟨b1,o1,e1,h1,q⟩:=pt (by intro e;rw [e] at hlt;simp at hlt);exact ⟨b1,o1,e01.trans e1,h1,q⟩
          have hdr:=HX.out.dr k hlt
          have hstp:dZ X (k+1)=gp (dZ X k) ((ci X).1.lives.getD k Lf.zero):=by unfold dZ;rw [lH _ _ _ Lf.zero hlt]
          have hold:∀ j,j<6->wr.cell? ⟨bl,ol+k*6+j,none⟩=((ci X).1.lives.getD k Lf.zero).cells[j]?:=fun j hj=>q k j hlt hj;have hb0:=(HX.out.b3.2.2.1 k hlt).1.1;have hb11:=(HX.out.b3.2.2.1 k hlt).1.2.1;obtain ⟨s,hs⟩:∃ s,s=(ci X).1.lives.getD k Lf.zero:=⟨_,rfl⟩;rw [<- hs] at hdr hstp hold hb0 hb11;obtain ⟨P,hP⟩:∃ P,P=dZ X k:=⟨_,rfl⟩;rw [<- hP] at hdr hstp A7;obtain ⟨s0,s1,s2,s3,s4,s5⟩:=s;simp only at hb0 hb11;have a0:wr.cell? ⟨bl,ol+k*6,none⟩=some (.int .i64 s0):=hold 0 (by omega);have a1:wr.cell? ⟨bl,ol+k*6+1,none⟩=some (.int .i64 s1):=hold 1 (by omega);have a2:wr.cell? ⟨bl,ol+k*6+2,none⟩=some (.int .i64 s2):=hold 2 (by omega);have a3_:wr.cell? ⟨bl,ol+k*6+3,none⟩=some (.int .i64 s3):=hold 3 (by omega);have a4:wr.cell? ⟨bl,ol+k*6+4,none⟩=some (.int .i64 s4):=hold 4 (by omega);have a5:wr.cell? ⟨bl,ol+k*6+5,none⟩=some (.int .i64 s5):=hold 5 (by omega);have HDr:=KL hdr;have HSt:=KL hstp;have HA8:=KL A7;clear q hold hs hP hdr hstp A7 L7 HA7;go_wp2_with fail;refine bA _ (fun w5 hw5=>?_)
          have b5:Below wr.heap.size wr w5:=by rw [hw5];exact (KM _ _).alloc (KY _) _
          obtain ⟨bx,hbx⟩:∃ bx,bx=wr.heap.size:=⟨_,rfl⟩
          have hx5:w5.heap[bx]?=some (.cells #[.int .i64 s0,.int .i64 s1,.int .i64 s2,.int .i64 s3,.int .i64 s4,.int .i64 s5] 173 (0,0)):=by rw [hw5];exact aB _ hbx
          rw [<- hbx];have HA9:=KL (HA8.out.below b5);have HL9:=KL (show dj (NI B SD) w5 6 (.slice (some ⟨bl,ol,none⟩) (ci X).1.lives.length cl) ((ci X).1.lives.map Lf.cells) from bZ HL7.out (Fr.of_below b5:Fr SD wr w5) (fun _ hx=>Or.inl hx));have y0:w5.cell? ⟨bx,0,none⟩=some (.int .i64 s0):=ae hx5 0;have y1:w5.cell? ⟨bx,1,none⟩=some (.int .i64 s1):=ae hx5 1;have y4:w5.cell? ⟨bx,4,none⟩=some (.int .i64 s4):=ae hx5 4;obtain ⟨nw,hnw⟩:∃ nw,nw=P.1.now:=⟨_,rfl⟩;have HNw:=KL hnw
          have x16:w5.cell? ⟨p,16,none⟩=some (.int .i64 nw):=by rw [hnw];exact HA9.out.c 16 (v:=.int .i64 P.1.now) rfl
          have hp5:=HA9.out.plt;clear hw5 hbx b5 hx5 hnw a0 a1 a2 a3_ a4 a5 HA8 HL7;by_cases h3:s1=3
          ·subst h3;by_cases hu:nw<s4
           ·have HE:=KL (show dZ X (k+1)=P from by rw [HSt.out];unfold gp;rw [if_pos (Or.inr (by rw [<- HNw.out];exact hu))]);refine Zr (fun w':World=>w'.cell? ⟨bx,1,none⟩=some (.int .i64 3)/\w'.cell? ⟨bx,4,none⟩=some (.int .i64 s4)/\w'.cell? ⟨p,16,none⟩=some (.int .i64 nw)) (fun hHeld=>?_);exact Q49
           ·have hu':¬ s4 > nw:=hu;have HE:=KL (show dZ X (k+1)=(dO P.1.tab s0).foldl pW P from by rw [HSt.out];unfold gp;rw [if_neg (by intro h;rcases h with h|h;exact h rfl;rw [<- HNw.out] at h;exact hu h)]);refine Zr (fun w':World=>w'.cell? ⟨bx,1,none⟩=some (.int .i64 3)/\w'.cell? ⟨bx,4,none⟩=some (.int .i64 s4)/\w'.cell? ⟨p,16,none⟩=some (.int .i64 nw)) (fun hHeld=>?_);refine eD 0 ?_;refine eY 8 ?_;refine Zt 12 ?_;refine Zd ?_;go_wp2_with fail;refine bA _ (fun w6 hw6=>?_)
            have b6:Below w5.heap.size w5 w6:=by rw [hw6];exact KN (KM _ _)
            have HA10:=KL (HA9.out.below b6);have HL10:=KL (show dj (NI B SD) w6 6 (.slice (some ⟨bl,ol,none⟩) (ci X).1.lives.length cl) ((ci X).1.lives.map Lf.cells) from bZ HL9.out (Fr.of_below b6:Fr SD w5 w6) (fun _ hx=>Or.inl hx))
            have y0:w6.cell? ⟨bx,0,none⟩=some (.int .i64 s0):=by rw [hw6];exact y0
            have hdr:=HDr.out (by trivial) (by rw [<- HNw.out];omega);obtain ⟨htm,hdr⟩:=hdr;have HDr2:=KL hdr;have HTm:=KL htm
            obtain ⟨bt,ot,ct,et,hbt,hqt⟩:∃ bt ot ct,V4.t=.slice (some ⟨bt,ot,none⟩) P.1.tab.length ct/\bt<w6.heap.size/\∀ i j,i<P.1.tab.length->j<4->w6.cell? ⟨bt,ot+i*4+j,none⟩=(P.1.tab.getD i Sl.zero).cells[j]?:=by
             obtain ⟨a,c,e,_,_,_,q⟩:=aO Sl.zero HA10.out.g.gr.1.ta.1;obtain ⟨b,o,rfl,hb,hq⟩:=q (by intro e;have:=htm.1;rw [e] at this;simp at this);exact ⟨b,o,c,e,hb,hq⟩
            have x17:=HA10.out.c 17 (v:=V4.t) rfl;rw [et] at x17;have HTb:=KL HA10.out.g.gr.1.ta.1;rw [et] at HTb;have HQt:=KL hqt;obtain ⟨D,hD⟩:∃ D,D=j8 P.1.tab s0 P.1.tab.length:=⟨_,rfl⟩
            have hD40:D.length<=40:=by rw [hD];exact Lz (lc _ _ _) htm.2.1
            have HD_:=KL hD;have hp6:=HA10.out.plt;have HOf:=KL (show ∀ W,W=w6.drew->Calls prog 79 #[.agg #[.slice (some ⟨bt,ot,none⟩) P.1.tab.length ct],.int .i64 s0] W (Hv W P.1.tab s0) from fun W hW=>by subst hW;exact rj bt ot ct P.1.tab s0 _ hbt htm (dH HTb.out 1) hqt);clear hw6 b6 hdr htm et hqt hD y1 y4 x16;refine Zr (fun w':World=>w'.cell? ⟨p,17,none⟩=some (.slice (some ⟨bt,ot,none⟩) P.1.tab.length ct)/\w'.cell? ⟨bx,0,none⟩=some (.int .i64 s0)) (fun hHeld=>?_);refine eY 0 ?_;refine dl 4 ?_;refine Zt 6 ?_;refine Z1 7 (fun K hK=>?_);go_simp;(go_at_call 79;refine (HOf.out _ rfl).mono ?_;rintro e w7 ⟨v7,rfl,R7,hb7⟩;rw [<- HD_.out] at R7;obtain ⟨a7,c7,rfl,_⟩:=ap R7.1;(try dsimp only));(try go_wp2_with fail);refine Zk hK fun hHeld=>?_;clear hK K;refine eY 8 ?_;refine Zt 12 ?_;refine Zd ?_;have bw7:Below w6.heap.size w6 w7:=KS (KN (KM w6.heap.size w6)) (hb7.mono (by simp));have HA11:=KL (HA10.out.below bw7);have HL11:=KL (show dj (NI B SD) w7 6 (.slice (some ⟨bl,ol,none⟩) (ci X).1.lives.length cl) ((ci X).1.lives.map Lf.cells) from bZ HL10.out (Fr.of_below bw7:Fr SD w6 w7) (fun _ hx=>Or.inl hx));have HH11:=KL (dv HA10.out.g R7 (by simp));clear bw7 hb7 R7 x17 y0 hbt;go_wp2_with fail;go_loopw [207] (fun i wr=>∃ j:Nat,j<=D.length/\i=.int .i64 j/\TR5 B p w S X (some ⟨bl,ol,none⟩) cl P s0 D a7 c7 j wr) (fun i _=>D.length - (intOf i).toNat)
            case atStart=>exact ⟨0,La _,rfl,SD,V4,vo4,HA11.out,HL11.out,HH11.out⟩
            case round=>
             obtain ⟨j,hj,rfl,SE,V5,vo5,A12,L12,H12⟩:=hrel;have HL12:=KL L12;have HH12:=KL H12;have hpq:=A12.plt;rcases (show j<D.length\/D.length=j by omega) with hlj|hej
             ·have hlj':(j:Int)<(D.length:Int):=by omega
              obtain ⟨bd,od,rfl,hbd,q⟩:∃ bl ol,a7=some ⟨bl,ol,none⟩/\bl<wr.heap.size/\∀ i j,i<D.length->j<2->wr.cell? ⟨bl,ol+i*2+j,none⟩=(D.getD i Hd.zero).cells[j]?:=by
               obtain ⟨_,_,e0,_,_,_,pt⟩:=aO Hd.zero H12.1;injection e0 with e01 _ _;obtain ⟨b1,o1,e1,h1,q⟩:=pt (by intro e;rw [e] at hlj;simp at hlj);exact ⟨b1,o1,e01.trans e1,h1,q⟩
              obtain ⟨hh,hhh⟩:∃ hh,hh=D.getD j Hd.zero:=⟨_,rfl⟩;have h0:=q j 0 hlj (by omega);have h1:=q j 1 hlj (by omega)
              have hsl:(dO P.1.tab s0).length=D.length:=by unfold dO;rw [Lh,<- HD_.out]
              have hsg:(dO P.1.tab s0).getD j 0=hh.slot:=by unfold dO;rw [<- HD_.out,hhh];simp [List.getD,hlj]
              have hdu:=HDr2.out j (by rw [hsl];exact hlj)
              have hstp:nN P s0 (j+1)=pW (nN P s0 j) hh.slot:=by unfold nN;rw [lH _ _ _ 0 (by rw [hsl];exact hlj),hsg]
              rw [hsg] at hdu;rw [<- hhh] at h0 h1;obtain ⟨Z,hZ⟩:∃ Z,Z=nN P s0 j:=⟨_,rfl⟩;(try simp only at hdu);rw [<- hZ] at hdu A12 hstp;obtain ⟨y,gy⟩:=hh;(try simp only at hdu);(try simp only at hstp);simp only [Hd.cells,Lb,Lc,Nat.add_zero] at h0 h1;obtain ⟨hgw,⟨hfo,hfi⟩,hol⟩:=hdu;obtain ⟨i,hi⟩:∃ i,i=fj Z.1 y:=⟨_,rfl⟩;rw [<- hi] at hfo hfi;have h40:=hgw.len;have HGw:=KL hgw;have HFo:=KL hfo;have HStp:=KL hstp;have HI:=KL hi;have HA12:=KL A12;obtain ⟨f,hf⟩:∃ f,Z.1.flows.getD i Fl.zero=f:=⟨_,rfl⟩
              have hfm:f∈Z.1.flows:=by rw [<- hf,aQ hfi];exact Lp hfi
              have HF:=KL hf;have HFm:=KL hfm;clear q hhh hsl hsg hZ hi hgw hfo hstp A12 L12 H12 hf hfm;go_wp2_with fail;refine fh _ (fun w9 hw9=>?_)
              have b9:Below wr.heap.size wr w9:=by rw [hw9];exact (KM _ _).alloc (KY _) _
              have HA13:=KL (HA12.out.below b9);have r9:=fun (sz:Nat) (v:Value) (L:List (List Value)) (h:dj (NI B SE) wr sz v L)=>bZ h (Fr.of_below b9:Fr SE wr w9) (fun _ hx=>Or.inl hx);have HL13:=KL (r9 _ _ _ HL12.out);have HH13:=KL (r9 _ _ _ HH12.out);clear hw9 b9 r9 h0 h1;have hfd:=mw HA13.out.g.gr y (by omega);rw [HFo.out] at hfd;refine hfd.mono ?_;rintro e w10 ⟨rfl,hb10⟩;have HA14:=KL (HA13.out.below hb10);have HL14:=KL (bZ HL13.out (Fr.of_below hb10:Fr SE w9 w10) (fun _ hx=>Or.inl hx));have HH14:=KL (bZ HH13.out (Fr.of_below hb10:Fr SE w9 w10) (fun _ hx=>Or.inl hx));clear hfd hb10;go_wp2_with fail;refine (iC HA14.out.g i hfi (by omega) ⟨6,0,0,0,0,0,2⟩ _ HF.out _ (HGw.out.drop HFm.out) (HGw.out.tabd HFm.out) HGw.out.bk HGw.out.wh HGw.out.wn (by omega)).mono ?_;rintro e w11 hc11;obtain ⟨S6,V6,vo6,rfl,A15,_,hr15⟩:=HA14.out.call2 hc11;have HA15:=KL A15;have HL15:=KL (hr15 _ _ _ HL14.out);have HH15:=KL (hr15 _ _ _ HH14.out);have HE2:=KL (show nN P s0 (j+1)=((gV Z.1 i 6 2).1,Z.2++(gV Z.1 i 6 2).2) from by rw [HStp.out];unfold pW;rw [<- HI.out]);clear A15 hc11 hr15;go_wp2;go_roundw
              case rel=>
               refine ⟨j+1,by omega,by go_num,S6,V6,vo6,?_,HL15.out,HH15.out⟩;rw [HE2.out];simp only;rw [Dw HF.out,Dv HF.out];exact HA15.out
              case measure=>simp [intOf];omega
             ·have hge5:¬ (j:Int)<(D.length:Int):=by omega
              have e5:dZ X (k+1)=nN P s0 j:=by rw [HE.out];unfold nN;rw [<- hej,show D.length=(dO P.1.tab s0).length from by unfold dO;rw [Lh,<- HD_.out]];exact (jw _ _ _).symm
              have HE5:=KL e5;have HA12:=KL A12;clear A12 L12 H12 e5 hej;go_wp2;go_roundw
              case rel=>exact ⟨k+1,by omega,by go_num,SE,V5,vo5,by rw [HE5.out];exact HA12.out,HL12.out⟩
              case measure=>simp [intOf];omega
          ·have hne:(s1 != 3)=true:=by simpa using h3
           have HE:=KL (show dZ X (k+1)=P from by rw [HSt.out];unfold gp;rw [if_pos (Or.inl h3)]);clear h3;refine Zr (fun w':World=>w'.cell? ⟨bx,1,none⟩=some (.int .i64 s1)) (fun hHeld=>?_);exact Q49
         ·have hge4:¬ (k:Int)<((ci X).1.lives.length:Int):=by omega
          have e4:dZ X k=jk X:=by rw [<- heq];exact jw _ _ _
          rw [e4] at A7;have HA8:=KL A7;clear A7 L7 HA7 HL7 e4 heq;go_wp2_with fail;refine LN (v:=.tuple #[]) (by simp [results,results38,go_sem]) rfl ?_;exact HA8.out.fin trivial
theorem mu {B p:Nat} {w:World} {X:Wd} {O:List Out} {S:List Nat} {V:Vs} {vo:Value} (h:G B p w X O S V vo) (hm:GwMay X) (e:Ev) (hk:e.kind=2\/e.kind=3\/e.kind=4) (hO:O.length<=700000) :
  Calls prog 39 #[.pointer (some ⟨p,0,none⟩),.agg (Ev.cells e).toArray] w (GTo B p w S (fx X e).1 (O++(fx X e).2) (fun _=>True) (.tuple #[])):=by
 have A0:=GA.start h
 have I:=KL hm
 have hp:=h.plt
 obtain ⟨e',aA⟩:∃ e',e'=e:=⟨_,rfl⟩
 have HE:=KL aA
 rw [<- aA]
 obtain ⟨k,ky,sl,gn,gd,rq,bk,wt⟩:=e
 simp only at hk
 obtain ⟨c,hc⟩:∃ c,c=vy X.tab sl gn:=⟨_,rfl⟩
 have HC:=KL hc
 obtain ⟨o,ho⟩:=Gs hm.tb sl gn
 rw [<- hc] at ho
 have HO:=KL ho
 rw [aA]
 unfold Ev.cells
 obtain ⟨FW,bc⟩:∃ FW,FW=fx X ⟨k,ky,sl,gn,gd,rq,bk,wt⟩:=⟨_,rfl⟩
 have ac:=KL bc
 rw [<- bc]
 obtain ⟨o0,o1,o2,o3⟩:=o
 have ax:=KL A0
 clear h hm A0 aA hc ho bc HE e'
 go_in
 go_wp2_with fail
 refine bA _ (fun wb bq=>?_)
 have bz:Below w.heap.size w wb:=by rw [bq];exact (KM _ _).alloc (KY _) _
 obtain ⟨Y,au⟩:∃ Y,Y=w.heap.size:=⟨_,rfl⟩
 have al:wb.heap[Y]?=some (.cells #[.int .i64 k,.int .i64 ky,.int .i64 sl,.int .i64 gn,.bool gd,.int .i64 rq,.int .i64 bk,.int .i64 wt] 61 (0,0)):=by rw [bq];exact aB _ au
 have cu:Y∉S:=by rw [au];exact (ax.out.no (KY _)).2.2.2.1
 have cv:Y≠p:=by rw [au];exact (ax.out.no (KY _)).2.2.2.2
 have HA:=KL (ax.out.below bz)
 rw [<- au]
 clear bq au bz ax
 have e0:wb.cell? ⟨Y,0,none⟩=some (.int .i64 k):=ae al 0
 have e2:wb.cell? ⟨Y,2,none⟩=some (.int .i64 sl):=ae al 2
 have e3:wb.cell? ⟨Y,3,none⟩=some (.int .i64 gn):=ae al 3
 have e4:wb.cell? ⟨Y,4,none⟩=some (.bool gd):=ae al 4
 have aT:=lt_of_block al
 have c2:=HA.out.c 17 (v:=V.t) rfl
 obtain ⟨at_,ct,et,_⟩:=ap HA.out.g.gr.1.ta.1
 rw [et] at c2
 have ba:=KL HA.out.g.gr.1.ta.1
 rw [et] at ba
 have cA:=HA.out.plt
 clear et al
 refine Ko (P:=?jP1) (F:=fun _ wz=>Below wb.heap.size wb wz) (fun bY=>?jm1) ?jr1
 case jm1=>
  refine Zr (fun w':World=>w'.cell? ⟨p,17,none⟩=some (.slice at_ X.tab.length ct)/\w'.cell? ⟨Y,2,none⟩=some (.int .i64 sl)/\w'.cell? ⟨Y,3,none⟩=some (.int .i64 gn)) (fun a9=>?_);refine eD 0 ?_;refine dl 8 ?_;refine Z2 10 14 (fun K hK=>?_) (fun K hK=>?_);(focus (go_simp;(go_at_call 80;refine (ge X.tab sl gn ⟨o0,o1,o2,o3⟩ c _ _ (aq ba.out Zb) HO.out).mono ?_;rintro e w2 ⟨rfl,hb2⟩;have bu:=hb2.size;(try simp at bu);(try (have a4:=aj hb2 (cO wb _) (dP wb _);have c9:w2.cell? ⟨wb.heap.size,0,none⟩=some (.int .i64 0):=ae a4 0;have ca:w2.cell? ⟨wb.heap.size,1,none⟩=some (.bool false):=ae a4 1;have cb:w2.cell? ⟨wb.heap.size,2,none⟩=some (.int .i64 0):=ae a4 2;have cc:w2.cell? ⟨wb.heap.size,3,none⟩=some (.int .i64 0):=ae a4 3;have cd:∀ n,w2.frozen? ⟨wb.heap.size,n,none⟩=false:=az a4));(try dsimp only));(try go_wp2_with fail);refine Zk hK fun a9=>?_;clear hK K;refine dl 11 ?_;refine Zt 13 ?_;refine Z1 14 (fun K hK=>?_);go_simp;refine Zk hK fun a9=>?_;clear hK K));rotate_left 1;(focus (go_simp;refine Zk hK fun a9=>?_;clear hK K;refine Z1 10 (fun K hK=>?_);go_simp;(go_at_call 80;refine (ge X.tab sl gn ⟨o0,o1,o2,o3⟩ c _ _ (aq ba.out Zb) HO.out).mono ?_;rintro e w2 ⟨rfl,hb2⟩;have bu:=hb2.size;(try simp at bu);(try (have a4:=aj hb2 (cO wb _) (dP wb _);have c9:w2.cell? ⟨wb.heap.size,0,none⟩=some (.int .i64 0):=ae a4 0;have ca:w2.cell? ⟨wb.heap.size,1,none⟩=some (.bool false):=ae a4 1;have cb:w2.cell? ⟨wb.heap.size,2,none⟩=some (.int .i64 0):=ae a4 2;have cc:w2.cell? ⟨wb.heap.size,3,none⟩=some (.int .i64 0):=ae a4 3;have cd:∀ n,w2.frozen? ⟨wb.heap.size,n,none⟩=false:=az a4));(try dsimp only));(try go_wp2_with fail);refine Zk hK fun a9=>?_;clear hK K;refine dl 11 ?_;refine Zt 13 ?_));rotate_left 1;(all_goals (refine Z1 15 (fun K hK=>?_);go_simp;refine Zk hK fun a9=>?_;clear hK K;refine Zt 16 ?_));(all_goals refine Zd ?_)
  ·refine bA _ (fun wz bt=>?_)
   have a5:Below wb.heap.size wb wz:=by rw [bt];exact (KS (KN (KM _ _)) (hb2.mono (by simp))).alloc (by omega) _
   obtain ⟨nb,bm⟩:∃ nb,nb=w2.heap.size:=⟨_,rfl⟩;rw [<- bm];exact bY nb wz a5
  ·refine bA _ (fun wz bt=>?_);have cg:Below wb.heap.size wb w2:=KS (KN ((KM _ _).alloc (KY _) _)) (hb2.mono (by simp));have aL:=KY wb.heap.size
   have a5:Below wb.heap.size wb wz:=by rw [bt];exact (((cg.setCell aL _).setCell aL _).setCell aL _).setCell aL _
   obtain ⟨nb,bm⟩:∃ nb,nb=wb.heap.size:=⟨_,rfl⟩;rw [<- bm];exact bY nb wz a5
 case jr1=>
  intro nb wz a5;have am:=KL (HA.out.below a5);have e0:=ah a5 e0 aT;have e2:=ah a5 e2 aT;have e3:=ah a5 e3 aT;have e4:=ah a5 e4 aT
  have b8:Y<wz.heap.size:=by have:=a5.size;omega
  have cF:=am.out.plt;clear a5 c2;by_cases hc0:c=0
  ·subst hc0;have av:=Ag I.out HC.out.symm;obtain ⟨i,hi⟩:∃ i,i=fj X sl:=⟨_,rfl⟩;have HI:=KL hi;rw [<- hi] at av;obtain ⟨av,a0,aH,aF⟩:=av;have c7:=KL av;have cx:=I.out.len;have bX:p∈S:=HA.out.g.sp;obtain ⟨f,hf⟩:∃ f,X.flows.getD i Fl.zero=f:=⟨_,rfl⟩;rw [hf] at aH aF
   have bh:f∈X.flows:=by rw [<- hf,aQ a0];exact Lp a0
   obtain ⟨E,es,hs,ck,n1,n2,n3,n4,n5,n6⟩:=I.out.num bh;obtain ⟨f0,f1,f2,f3,f4,f5,f6⟩:=f;simp only at aH aF es n1 n2 n3 n4 n5 n6;subst es;obtain rfl:sl=(E:Int):=aH.symm;obtain rfl:gn=f1:=aF.symm;obtain ⟨b3,rfl⟩:=Lr n5;have HF:=KL hf;have bw:=KL bh;clear hi av hf bh aH aF ck;go_wp2_with fail;have bf:=mw am.out.g.gr (E:Int) (by omega);rw [c7.out] at bf;refine bf.mono ?_;rintro e w3 ⟨rfl,hb3⟩;have a7:=KL (am.out.below hb3);have e0:=ah hb3 e0 b8;have e2:=ah hb3 e2 b8;have e3:=ah hb3 e3 b8;have e4:=ah hb3 e4 b8
   have c1:Y<w3.heap.size:=by have:=hb3.size;omega
   obtain ⟨g,cr,ev⟩:=a7.out.shape (by intro e;rw [e] at a0;simp at a0);have ak:=KL ev;obtain ⟨_,k1,k2,k3,k4,k5⟩:=a7.out.flow ev a0 HF.out;have d3:w3.cell? ⟨g,i*7+3,none⟩=some (.int .i64 (b3:Int)):=k5 3 (by omega);have d4:w3.cell? ⟨g,i*7+4,none⟩=some (.bool f4):=k5 4 (by omega);have c3:=a7.out.c 18 (v:=V.f) rfl;rw [ev] at c3;have i0:(0:Int)<=(i:Int):=by omega
   have i1:(i:Int)<(X.flows.length:Int):=by omega
   clear bf hb3 ev k5;go_wp2_with fail;refine Zr (fun w':World=>w'.cell? ⟨Y,2,none⟩=some (.int .i64 (E:Int))/\w'.cell? ⟨Y,3,none⟩=some (.int .i64 gn)/\w'.cell? ⟨g,i*7+3,none⟩=some (.int .i64 (b3:Int))) (fun a9=>?_);refine eD 0 ?_;refine Zt 8 ?_;refine Z1 9 (fun K hK=>?_);go_simp;refine Zk hK fun a9=>?_;clear hK K;refine Z1 10 (fun K hK=>?_);go_simp;refine Zk hK fun a9=>?_;clear hK K;refine Zd ?_;refine bA _ (fun wo bs=>?_)
   have a8:Below w3.heap.size w3 wo:=by rw [bs];exact Zb
   obtain ⟨z,ag⟩:∃ z,z=w3.heap.size:=⟨_,rfl⟩
   have aS:wo.heap[z]?=some (.cells #[.int .i64 0,.int .i64 (E:Int),.int .i64 gn,.int .i64 (b3:Int),.int .i64 0,.int .i64 0,.int .i64 0] 75 (0,0)):=by rw [bs];exact aB _ ag
   have bW:=a7.out.no (Nat.le_of_eq ag.symm);have W:=KL bW;have a3:=KL aS;have Z:=KL (a7.out.more a8 z (Nat.le_of_eq ag.symm) (by rw [ag];exact lt_of_block (ag ▸ aS)));have cn:=lt_of_block aS;rw [<- ag];have e0:=ah a8 e0 c1;have e4:=ah a8 e4 c1
   have cK:Y<wo.heap.size:=by have:=a8.size;omega
   have cH:g<wo.heap.size:=by have:=a8.size;omega
   have d3:=ah a8 d3 k1;have d4:=ah a8 d4 k1;have cC:=Z.out.plt;clear bs ag aS bW a8 c3 e2 e3;by_cases hk3:k=3
   ·subst hk3;go_wp2_with fail;refine (iC Z.out.g i a0 (by omega) ⟨7,0,0,0,0,0,0⟩ _ HF.out _ (I.out.drop bw.out) (I.out.tabd bw.out) I.out.bk I.out.wh I.out.wn (by omega)).mono ?_;rintro e U bE;obtain ⟨S5,V5,cS,rfl,A5,_,_,_⟩:=Z.out.call bE;have ab:=KL A5;clear A5 bE;go_wp2_with fail;refine LN (v:=.tuple #[]) (by simp [results,results39,go_sem]) rfl ?_;rw [ac.out];unfold fx;simp only;rw [<- HC.out,if_neg (by simp),if_pos trivial,<- HI.out,Dw HF.out,Dv HF.out];exact ab.out.fin trivial
   ·have cw:(k == 3)=false:=by simpa using hk3
    have co:=KL hk3;by_cases hk2:k=2
    ·subst hk2
     cases f4 with
     | true=>
      have bi:=I.out.cf.1.1;have bj:=I.out.n1;have bp:=I.out.tb.2.1
      have aw:dN ⟨X.now+X.cf.idle,(E:Int)⟩ X.now:=by unfold dN;simp only;omega
      have bb:=KL aw;clear bi bj bp aw;have x6:=Z.out.c 6 (v:=.int .i64 X.cf.idle) rfl;have c5:=ak;obtain ⟨_,q1,q2,_,q4,q5⟩:=Z.out.flow ak.out a0 HF.out;have c0:wo.cell? ⟨g,i*7,none⟩=some (.int .i64 (E:Int)):=q5 0 (by omega);have c6:wo.cell? ⟨g,i*7+6,none⟩=some (.int .i64 f6):=q5 6 (by omega);have bd:=KL (oO a0 HF.out 6 (by omega) (.int .i64 (X.now+X.cf.idle)) ⟨(E:Int),gn,f2,(b3:Int),true,f5,X.now+X.cf.idle⟩ rfl);clear q5;go_wp2_with fail;refine (mW Z.out.g g (i*7) (E:Int) X.cf.idle (X.flows.set i ⟨(E:Int),gn,f2,(b3:Int),true,f5,X.now+X.cf.idle⟩) S bX q1 q2 c0 f6 c6 (q4 _) (fun w' X' V' gG ef ev _ _=>⟨(nT gG (by rw [ev];exact c5.out) (i*7+6) _ _ (by rw [ef];simp) (by rw [ef];exact bd.out)).1,di k3 _ _⟩) I.out.wh I.out.wn bb.out).mono ?_;rintro e U ⟨V5,rfl,G5,af,ad,_⟩;have ab:=KL (Z.out.same G5 (ad.wide (fun x hx=>Ly _ hx)));have J:=(ad.block z cn W.out.2.2.2.1).trans a3.out;have cp:=KL J;have an:Hid (V5.f.ownBlock≠some z/\V5.h.ownBlock≠some z):=⟨by rw [af.1];exact W.out.1,by rw [af.2.1];exact W.out.2.1⟩;have u0:U.cell? ⟨z,0,none⟩=some (.int .i64 0):=ae J 0;have u1:U.cell? ⟨z,1,none⟩=some (.int .i64 (E:Int)):=ae J 1;have u2:U.cell? ⟨z,2,none⟩=some (.int .i64 gn):=ae J 2;have u3:U.cell? ⟨z,3,none⟩=some (.int .i64 (b3:Int)):=ae J 3;have u4:U.cell? ⟨z,4,none⟩=some (.int .i64 0):=ae J 4;have u5:U.cell? ⟨z,5,none⟩=some (.int .i64 0):=ae J 5;have u6:U.cell? ⟨z,6,none⟩=some (.int .i64 0):=ae J 6;have uf:∀ n,U.frozen? ⟨z,n,none⟩=false:=fun n=>az J n;clear G5 af ad J;go_wp2_with fail;refine fh _ (fun w6 aa=>?_);have g6:=sx ab.out.g z 0 (.int .i64 3) Lw W.out.2.2.2.2 an.out.1 an.out.2 W.out.2.2.1;have a2:=KL (ab.out.same g6.1 g6.2);rw [<- aa] at a2;clear aa g6;refine (dw a2.out.g ⟨3,(E:Int),gn,(b3:Int),0,0,0⟩ (by omega)).mono ?_;rintro e w7 a1;obtain ⟨S7,V7,b9,rfl,A7,_,_,_⟩:=a2.out.call a1;have a6:=KL A7;clear A7 a1;go_wp2_with fail;refine LN (v:=.tuple #[]) (by simp [results,results39,go_sem]) rfl ?_;rw [ac.out];unfold fx;simp only;rw [<- HC.out,if_neg (by simp),if_neg (by omega),if_pos trivial,<- HI.out,HF.out];simp only [if_true];unfold nv;rw [HF.out];exact a6.out.fin trivial
     | false=>
      have u0:wo.cell? ⟨z,0,none⟩=some (.int .i64 0):=ae a3.out 0;have u1:wo.cell? ⟨z,1,none⟩=some (.int .i64 (E:Int)):=ae a3.out 1;have u2:wo.cell? ⟨z,2,none⟩=some (.int .i64 gn):=ae a3.out 2;have u3:wo.cell? ⟨z,3,none⟩=some (.int .i64 (b3:Int)):=ae a3.out 3;have u4:wo.cell? ⟨z,4,none⟩=some (.int .i64 0):=ae a3.out 4;have u5:wo.cell? ⟨z,5,none⟩=some (.int .i64 0):=ae a3.out 5;have u6:wo.cell? ⟨z,6,none⟩=some (.int .i64 0):=ae a3.out 6;have uf:∀ n,wo.frozen? ⟨z,n,none⟩=false:=fun n=>az a3.out n;go_wp2_with fail;refine fh _ (fun w6 aa=>?_);have g6:=sx Z.out.g z 0 (.int .i64 3) Lw W.out.2.2.2.2 W.out.1 W.out.2.1 W.out.2.2.1;have a2:=KL (Z.out.same g6.1 g6.2);rw [<- aa] at a2;clear aa g6;refine (dw a2.out.g ⟨3,(E:Int),gn,(b3:Int),0,0,0⟩ (by omega)).mono ?_;rintro e w7 a1;obtain ⟨S7,V7,b9,rfl,A7,_,_,_⟩:=a2.out.call a1;have a6:=KL A7;clear A7 a1;go_wp2_with fail;refine LN (v:=.tuple #[]) (by simp [results,results39,go_sem]) rfl ?_;rw [ac.out];unfold fx;simp only;rw [<- HC.out,if_neg (by simp),if_neg (by omega),if_pos trivial,<- HI.out,HF.out];simp only [Bool.false_eq_true,if_false];exact a6.out.fin trivial
    ·obtain rfl:k=4:=by omega
     cases f4 with
     | true=>
      go_wp2_with fail;refine (dw Z.out.g ⟨10,0,0,0,0,7,0⟩ (by omega)).mono ?_;rintro e w7 a1;obtain ⟨S7,V7,b9,rfl,A7,_,_,_⟩:=Z.out.call a1;have a6:=KL A7;clear A7 a1;go_wp2_with fail;refine LN (v:=.tuple #[]) (by simp [results,results39,go_sem]) rfl ?_;rw [ac.out];unfold fx;simp only;rw [<- HC.out,if_neg (by simp),if_neg (by omega),if_neg (by omega),<- HI.out,HF.out];simp only [if_true];exact a6.out.fin trivial
     | false=>
      cases gd with
      | true=>
       have bi:=I.out.cf.1.1;have bj:=I.out.n1;have bp:=I.out.tb.2.1
       have aw:dN ⟨X.now+X.cf.idle,(E:Int)⟩ X.now:=by unfold dN;simp only;omega
       have bb:=KL aw;clear bi bj bp aw;have cf:b3<12:=by omega
       have gf:∀ j,wo.frozen? ⟨g,j,none⟩=false:=(Z.out.flow ak.out a0 HF.out).2.2.2.2.1;go_wp2_with fail;refine fh _ (fun wn br=>?_);have An:=Z.out.flset ak.out (i*7+4) (.bool true) (X.flows.set i ⟨(E:Int),gn,f2,(b3:Int),true,f5,f6⟩) (by simp) (oO a0 HF.out 4 (by omega) (.bool true) ⟨(E:Int),gn,f2,(b3:Int),true,f5,f6⟩ rfl)
       have bn:wn.heap[z]?=wo.heap[z]?:=by rw [br];exact KV _ _ _ _ (fun e=>W.out.2.2.2.1 (by have e':z=g:=e;rw [e'];exact k3))
       rw [<- br] at An;have bv:=KL An;have c8:=KL (bn.trans a3.out);have cm:=lt_of_block (bn.trans a3.out);clear br An bn;have ao:=KL I.out.note;refine (pi bv.out.g b3 cf false ⟨ao.out.bk,ao.out.hl,ao.out.ht,ao.out.m0,ao.out.m1⟩).mono ?_;rintro e w4 ⟨m4,rfl,G4,ar⟩;have ar:=ar S (fun b hb=>(a7.out.g.sh b hb).1);have ay:=KL (bv.out.same G4 (ar.wide (fun x hx=>Ly _ hx)));have bx:=KL ((ar.block z cm W.out.2.2.2.1).trans c8.out);have cl:=lt_of_block bx.out;have x6:=ay.out.c 6 (v:=.int .i64 X.cf.idle) rfl;have ch:i<(ce { X with flows:=X.flows.set i ⟨(E:Int),gn,f2,(b3:Int),true,f5,f6⟩ } b3 false).flows.length:=by simpa [ce] using a0
       have bT:(ce { X with flows:=X.flows.set i ⟨(E:Int),gn,f2,(b3:Int),true,f5,f6⟩ } b3 false).flows.getD i Fl.zero=⟨(E:Int),gn,f2,(b3:Int),true,f5,f6⟩:=rT a0 _;obtain ⟨_,q1,q2,_,q4,q5⟩:=ay.out.flow ak.out ch bT;have c0:w4.cell? ⟨g,i*7,none⟩=some (.int .i64 (E:Int)):=q5 0 (by omega);have c6:w4.cell? ⟨g,i*7+6,none⟩=some (.int .i64 f6):=q5 6 (by omega);have bd:=KL (oO (F:=X.flows.set i ⟨(E:Int),gn,f2,(b3:Int),true,f5,f6⟩) (by simpa using a0) (rT a0 _) 6 (by omega) (.int .i64 (X.now+X.cf.idle)) ⟨(E:Int),gn,f2,(b3:Int),true,f5,X.now+X.cf.idle⟩ rfl);clear q5 G4 ar;go_wp2_with fail;refine (mW ay.out.g g (i*7) (E:Int) X.cf.idle ((X.flows.set i ⟨(E:Int),gn,f2,(b3:Int),true,f5,f6⟩).set i ⟨(E:Int),gn,f2,(b3:Int),true,f5,X.now+X.cf.idle⟩) S bX q1 q2 c0 f6 c6 (q4 _) (fun w' X' V' gG ef ev _ _=>⟨(nT gG (by rw [ev];exact ak.out) (i*7+6) _ _ (by rw [ef];simp [ce]) (by rw [ef];exact bd.out)).1,di k3 _ _⟩) I.out.wh I.out.wn bb.out).mono ?_;rintro e U ⟨V5,rfl,G5,af,ad,_⟩;have ab:=KL (ay.out.same G5 (ad.wide (fun x hx=>Ly _ hx)));have J:=(ad.block z cl W.out.2.2.2.1).trans bx.out;have an:Hid (V5.f.ownBlock≠some z/\V5.h.ownBlock≠some z):=⟨by rw [af.1];exact W.out.1,by rw [af.2.1];exact W.out.2.1⟩;have u0:U.cell? ⟨z,0,none⟩=some (.int .i64 0):=ae J 0;have u1:U.cell? ⟨z,1,none⟩=some (.int .i64 (E:Int)):=ae J 1;have u2:U.cell? ⟨z,2,none⟩=some (.int .i64 gn):=ae J 2;have u3:U.cell? ⟨z,3,none⟩=some (.int .i64 (b3:Int)):=ae J 3;have u4:U.cell? ⟨z,4,none⟩=some (.int .i64 0):=ae J 4;have u5:U.cell? ⟨z,5,none⟩=some (.int .i64 0):=ae J 5;have u6:U.cell? ⟨z,6,none⟩=some (.int .i64 0):=ae J 6;have uf:∀ n,U.frozen? ⟨z,n,none⟩=false:=fun n=>az J n;clear G5 af ad J;go_wp2_with fail;refine fh _ (fun w6 aa=>?_);have g6:=sx ab.out.g z 0 (.int .i64 4) Lw W.out.2.2.2.2 an.out.1 an.out.2 W.out.2.2.1;have a2:=KL (ab.out.same g6.1 g6.2);rw [<- aa] at a2;clear aa g6;refine (dw a2.out.g ⟨4,(E:Int),gn,(b3:Int),0,0,0⟩ (by omega)).mono ?_;rintro e w7 a1;obtain ⟨S7,V7,b9,rfl,A7,_,_,_⟩:=a2.out.call a1;have a6:=KL A7;clear A7 a1;go_wp2_with fail;refine LN (v:=.tuple #[]) (by simp [results,results39,go_sem]) rfl ?_;rw [ac.out];unfold fx;simp only;rw [<- HC.out,if_neg (by simp),if_neg (by omega),if_neg (by omega),<- HI.out,HF.out];simp only [Bool.false_eq_true,if_false,if_true]
       have e:nv (ce (j6 X i) (Int.toNat (b3:Int)) false) i={ ce { X with flows:=X.flows.set i ⟨(E:Int),gn,f2,(b3:Int),true,f5,f6⟩ } b3 false with flows:=(X.flows.set i ⟨(E:Int),gn,f2,(b3:Int),true,f5,f6⟩).set i ⟨(E:Int),gn,f2,(b3:Int),true,f5,X.now+X.cf.idle⟩,lists:=jP X.now X.lists (E:Int) X.cf.idle }:=by
        unfold nv j6;rw [HF.out,Lm];simp only;rw [bT]
        rfl
       rw [e];exact a6.out.fin trivial
      | false=>
       go_wp2_with fail;refine (mV Z.out.g I.out i a0 3 (by omega)).mono ?_;rintro e w7 a1;obtain ⟨S7,V7,b9,rfl,A7,_,_,_⟩:=Z.out.call a1;have a6:=KL A7;clear A7 a1;go_wp2_with fail;refine LN (v:=.tuple #[]) (by simp [results,results39,go_sem]) rfl ?_;rw [ac.out];unfold fx;simp only;rw [<- HC.out,if_neg (by simp),if_neg (by omega),if_neg (by omega),<- HI.out,HF.out];simp only [Bool.false_eq_true,if_false];exact a6.out.fin trivial
  ·have cy:(c != 0)=true:=by simpa using hc0
   have c4:=KL hc0;clear hc0;go_wp2_with fail;refine (dw am.out.g ⟨10,0,0,0,0,c,0⟩ (by omega)).mono ?_;rintro e w3 bC;obtain ⟨S3,V3,cL,rfl,A3,_,_,_⟩:=am.out.call bC;have a7:=KL A3;clear A3 bC;go_wp2_with fail;refine LN (v:=.tuple #[]) (by simp [results,results39,go_sem]) rfl ?_;rw [ac.out];unfold fx;simp only;rw [<- HC.out,if_pos c4.out];exact a7.out.fin trivial
end
end Go.Proofs.YtennppmadmgfoaaGreatDoor
