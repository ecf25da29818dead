/- Texts of the row's proof. Conditions: none. -/
import Derived.Test.YtfliffgmeobclaaGreatK39
namespace Go.Proofs.YtfliffgmeobclaaGreat
set_option maxRecDepth 100000
set_option maxHeartbeats 8000000
section
open Go.RowKit
def IntRow (B:Nat) (SA:List Nat) (w:World) (a:Option Addr) (c:Nat) (L:List Int):Prop:=dd (NI B SA) w 1 (.slice a L.length c) (L.map fun x=>[Value.int .i64 x])
theorem IntRow.at_ {B:Nat} {SA:List Nat} {w:World} {a:Option Addr} {c:Nat} {L:List Int} (h:IntRow B SA w a c L) {k:Nat} (hk:k<L.length):∃ b o,a=some ⟨b,o,none⟩∧b<w.heap.size∧w.cell? ⟨b,o+k,none⟩=some (.int .i64 (L.getD k 0)):=by
 obtain ⟨_,_,e0,_,_,_,pt⟩:=aK (0:Int) h.1;injection e0 with e01 _ _;obtain ⟨b,o,e1,h1,q⟩:=pt (by intro e;rw [e] at hk;simp at hk);have:=q k 0 hk (by omega);rw [Nat.mul_one,Nat.add_zero] at this;exact ⟨b,o,e01.trans e1,h1,this⟩
def TR2 (B p:Nat) (w:World) (S:List Nat) (X:Wd) (af:Option Addr) (cf_:Nat) (g ch:Nat) (k:Nat) (wr:World):Prop:=∃ SA V vo,GA B p w S wr (gm (cu X) k) [] SA V vo∧IntRow B SA wr af cf_ (eN X)∧V.h=.slice (some ⟨g,0,none⟩) 12 ch
def TR3 (B p:Nat) (w:World) (S:List Nat) (X:Wd) (af:Option Addr) (cf_:Nat) (k:Nat) (wr:World):Prop:=∃ SA V vo,GA B p w S wr (fU X k).1 (fU X k).2 SA V vo∧IntRow B SA wr af cf_ (eN X)
def TR4 (B p:Nat) (w:World) (S:List Nat) (X:Wd) (al:Option Addr) (cl:Nat) (k:Nat) (wr:World):Prop:=∃ SA V vo,GA B p w S wr (dX X k).1 (dX X k).2 SA V vo∧dd (NI B SA) wr 6 (.slice al (bV X).1.lives.length cl) ((bV X).1.lives.map Lf.cells)
def TR5 (B p:Nat) (w:World) (S:List Nat) (X:Wd) (al:Option Addr) (cl:Nat) (P:Wd×List Out) (b:Int) (D:List Hd) (a7:Option Addr) (c7:Nat) (j:Nat) (wr:World):Prop:=∃ SA V vo,GA B p w S wr (mQ P b j).1 (mQ P b j).2 SA V vo∧dd (NI B SA) wr 6 (.slice al (bV X).1.lives.length cl) ((bV X).1.lives.map Lf.cells)∧dd (NI B SA) wr 2 (.slice a7 D.length c7) (D.map Hd.cells)
def TR1 (B p:Nat) (w:World) (S:List Nat) (X:Wd) (af:Option Addr) (cf_:Nat) (a3:Option Addr) (c3:Nat) (k:Nat) (wr:World):Prop:=∃ SA V vo,GA B p w S wr (fD X k) [] SA V vo∧IntRow B SA wr af cf_ (eN X)∧IntRow B SA wr a3 c3 (ds X)
theorem xN {B p:Nat} {w:World} {X:Wd} {S:List Nat} {V:Vs} {vo:Value} (h:G B p w X [] S V vo) (hm:zN X) :
  Calls Tryz.prog 34 #[.pointer (some ⟨p,0,none⟩)] w (GTo B p w S (jc X).1 (jc X).2 (fun _=>True) (.tuple #[])):=by
 have HA0:=Hu (GA.start h)
 have HX:=Hu hm
 have hp:=h.plt
 have n0:=hm.n0
 have n1:=hm.n1
 have x24:=HA0.out.c 24 (v:=.int .i64 X.now) (by unfold dj;rw [← hm.wn];rfl)
 have x25:=HA0.out.c 25 (v:=V.w) rfl
 have hl4:kY w V.w X.lists:=HA0.out.g.gr.1.wh.at_
 obtain ⟨al,cl,el⟩:=bI hl4
 have h25:=hm.wh.2.2.1
 have htot:=hm.wh.tot
 rw [h25] at el
 rw [el] at x25 hl4
 have HWl:=Hu hl4
 have HAd:=Hu (show AdvAns X.now X.lists (X.now+1) (bM X).lists (eN X) 0 from Or.inr (Or.inr ⟨hm.wh,by omega,rfl,rfl,rfl,rfl⟩))
 obtain ⟨N1,hN1⟩:∃ N1,N1=X.now+1:=⟨_,rfl⟩
 have HN1:=Hu hN1
 rw [← hN1] at HAd
 have hN0:0≤N1:=by omega
 have hN2:N1≤1099511626776:=by omega
 have hle:X.lists.length≤1048576:=by omega
 have hwl12:(ds X).length≤12:=Iq (BX X) hm.bk.1
 have hof200:(eN X).length≤200:=Iq (vz X) htot
 have hle2:X.lists.flatten.length≤1048576:=by omega
 clear h hm hl4 el h25 hN1
 go_enter Tryz.func34,Tryz.ntmps34
 go_wp2_with fail
 refine (tH _ X.now X.lists _ HWl.out hle hle2 _ _ _ _ HAd.out).mono ?_
 rintro e w1 ⟨v1,vf,rfl,hl1,Rf,hb1⟩
 obtain ⟨aw,cw,rfl⟩:=bI hl1.at_
 obtain ⟨af,cf_,rfl,_⟩:=aq Rf.1
 have HA1:=Hu (HA0.out.below hb1)
 have hp1:=HA1.out.plt
 have HKw:=Hu (j7 (jH hl1) (fun b _ hB=>⟨fun hS=>by have:=HA0.out.g.sl b hS;omega,by have:=HA0.out.g.pB;have:=HA0.out.g.plt;omega⟩):LsK (NI B S) w1 (.slice aw (bM X).lists.length cw) (bM X).lists)
 have HRf:=Hu (show IntRow B S w1 af cf_ (eN X) from dm HA0.out.g Rf (I3 _))
 have x24:=ah hb1 x24 hp
 have x25:=ah hb1 x25 hp
 have x16:=HA1.out.c 16 (v:=.int .i64 X.now) rfl
 have xf:∀ n,w1.frozen? ⟨p,n,none⟩=false:=fun n=>HA1.out.free n
 have z1:¬ w1.heap.size=p:=by omega
 have z2:¬ p=w1.heap.size:=by omega
 have iw:IntKind.i64.wrap (X.now+1)=N1:=by rw [HN1.out,IntKind.wrap_i64];omega
 clear hl1 Rf hb1
 go_wp2_with fail
 refine aY _ (fun w2 hw2=>?_)
 have A2:=HA1.out.cell 24 (.int .i64 N1) { X with wnow:=N1 } V rfl rfl rfl rfl rfl rfl { HA1.out.g.ro with }
 have A2:=A2.cell 25 (.slice aw (bM X).lists.length cw) { X with wnow:=N1,lists:=(bM X).lists } { V with w:=.slice aw (bM X).lists.length cw } rfl rfl rfl rfl rfl rfl { A2.g.ro with wh:=gc HKw.out (by simp) (fun b' _ hb'=>I2 _ _ _ _ (fun e=>hb'.1 (by have e':b'=p:=e;rw [e'];exact HA1.out.g.sp))) }
 have A2:=A2.cell 16 (.int .i64 N1) { X with now:=N1,wnow:=N1,lists:=(bM X).lists } { V with w:=.slice aw (bM X).lists.length cw } rfl rfl rfl rfl rfl rfl { A2.g.ro with }
 have hpS:=HA1.out.g.sp
 have f2:Fr S w1 w2:=by rw [hw2];exact ((((cZ hpS _ _).trans (cZ hpS _ _) (fun _ hx=>Or.inl hx)).trans (cZ hpS _ _) (fun _ hx=>Or.inl hx)).trans (Fr.of_below ((Hv _ _).alloc (I3 _) _)) (fun _ hx=>Or.inl hx))
 have A2:=A2.below ((Hv _ _).alloc (I3 _) (.cells #[.int .i64 N1,.slice aw (bM X).lists.length cw] 61))
 rw [← hw2] at A2
 have HA2:=Hu A2
 have HRf2:=Hu (show IntRow B S w2 af cf_ (eN X) from bS HRf.out f2 (fun _ hx=>Or.inl hx))
 have hp2:=HA2.out.plt
 have x16:=HA2.out.c 16 (v:=.int .i64 N1) rfl
 have x19:=HA2.out.c 19 (v:=V.l) rfl
 have x20:=HA2.out.c 20 (v:=V.r) rfl
 obtain ⟨al,cl,el,_⟩:=aq HA2.out.g.gr.1.li.1
 obtain ⟨ar,cr,er,_⟩:=aq HA2.out.g.gr.1.re.1
 simp only at el er
 rw [el] at x19
 rw [er] at x20
 have HL:=Hu (show aI w2 6 (.slice al X.lives.length cl) (X.lives.map Lf.cells) from by rw [← el];exact HA2.out.g.gr.1.li.1)
 have HR:=Hu (show aI w2 5 (.slice ar X.reqs.length cr) (X.reqs.map Rq.cells) from by rw [← er];exact HA2.out.g.gr.1.re.1)
 have HWk:=Hu (show Hl X.lives X.reqs N1 (bM X).lives X.reqs (ds X) 0 from Or.inr (Or.inr ⟨HX.out.bk,hN0,by omega,by rw [HN1.out];rfl,rfl,rfl,rfl⟩))
 clear A2 hw2 f2 el er x24 x25 xf z1 z2 iw HRf HKw
 refine join8 (P:=?jP1) (F:=fun (nb:Nat) (a1:Option Addr) (c1:Nat) (a2:Option Addr) (c2:Nat) (a3:Option Addr) (c3:Nat) wz=>Below w2.heap.size w2 wz∧wz.heap[nb]?=some (.cells #[.slice a1 (bM X).lives.length c1,.slice a2 X.reqs.length c2] 52 (0,0))∧aM w2.heap.size wz 6 (.slice a1 (bM X).lives.length c1) ((bM X).lives.map Lf.cells)∧aM w2.heap.size wz 5 (.slice a2 X.reqs.length c2) (X.reqs.map Rq.cells)∧aM w2.heap.size wz 1 (.slice a3 (ds X).length c3) ((ds X).map fun x=>[Value.int .i64 x])) (fun key=>?jm1) ?jr1
 case jm1=>
  refine Zr (fun w':World=>w'.cell? ⟨p,19,none⟩=some (.slice al X.lives.length cl)∧w'.cell? ⟨p,20,none⟩=some (.slice ar X.reqs.length cr)∧w'.cell? ⟨p,16,none⟩=some (.int .i64 N1)) (fun hHeld=>?_);refine ep 0 ?_;refine df 8 ?_;refine Z2 10 15 (fun K hK=>?_) (fun K hK=>?_);(focus (go_simp;(go_at_call 69;refine (pZ _ _ X.lives X.reqs N1 (bM X).lives X.reqs (ds X) 0 _ (au HL.out Zb) (au HR.out Zb) HWk.out).mono ?_;rintro e w3 ⟨v1,v2,v3,rfl,R1,R2,R3,hb3⟩;obtain ⟨a1,c1,rfl,_⟩:=aq R1.1;obtain ⟨a2,c2,rfl,_⟩:=aq R2.1;obtain ⟨a3,c3,rfl,_⟩:=aq R3.1;have hz3:=hb3.size;(try simp at hz3);(try (have bxb:=aj hb3 (cJ w2 _) (dL w2 _);have bx0:w3.cell? ⟨w2.heap.size,0,none⟩=some (.slice none 0 0):=ae bxb 0;have bx1:w3.cell? ⟨w2.heap.size,1,none⟩=some (.slice none 0 0):=ae bxb 1;have bxf:∀ n,w3.frozen? ⟨w2.heap.size,n,none⟩=false:=ap bxb));(try dsimp only));(try go_wp2_with fail);refine Zk hK fun hHeld=>?_;clear hK K;refine eP 11 ?_;refine Z1 15 (fun K hK=>?_);go_simp;refine Zk hK fun hHeld=>?_;clear hK K));rotate_left 1;(focus (go_simp;refine Zk hK fun hHeld=>?_;clear hK K;refine Z1 10 (fun K hK=>?_);go_simp;(go_at_call 69;refine (pZ _ _ X.lives X.reqs N1 (bM X).lives X.reqs (ds X) 0 _ (au HL.out Zb) (au HR.out Zb) HWk.out).mono ?_;rintro e w3 ⟨v1,v2,v3,rfl,R1,R2,R3,hb3⟩;obtain ⟨a1,c1,rfl,_⟩:=aq R1.1;obtain ⟨a2,c2,rfl,_⟩:=aq R2.1;obtain ⟨a3,c3,rfl,_⟩:=aq R3.1;have hz3:=hb3.size;(try simp at hz3);(try (have bxb:=aj hb3 (cJ w2 _) (dL w2 _);have bx0:w3.cell? ⟨w2.heap.size,0,none⟩=some (.slice none 0 0):=ae bxb 0;have bx1:w3.cell? ⟨w2.heap.size,1,none⟩=some (.slice none 0 0):=ae bxb 1;have bxf:∀ n,w3.frozen? ⟨w2.heap.size,n,none⟩=false:=ap bxb));(try dsimp only));(try go_wp2_with fail);refine Zk hK fun hHeld=>?_;clear hK K;refine eP 11 ?_));rotate_left 1;(all_goals (refine Z1 16 (fun K hK=>?_);go_simp;refine Zk hK fun hHeld=>?_;clear hK K;refine df 17 ?_));(all_goals refine Zd ?_)
  ·refine aY _ (fun wz hwz=>?_)
   have hbz:Below w2.heap.size w2 wz:=by rw [hwz];exact (I0 (Hx (Hv _ _)) (hb3.mono (by simp))).alloc (by omega) _
   have h1:=cR (aG R1 (show w2.heap.size≤_ by simp)) (.cells #[.slice a1 (bM X).lives.length c1,.slice a2 X.reqs.length c2] 52);have h2:=cR (aG R2 (show w2.heap.size≤_ by simp)) (.cells #[.slice a1 (bM X).lives.length c1,.slice a2 X.reqs.length c2] 52);have h3:=cR (aG R3 (show w2.heap.size≤_ by simp)) (.cells #[.slice a1 (bM X).lives.length c1,.slice a2 X.reqs.length c2] 52);rw [← hwz] at h1 h2 h3;obtain ⟨nb,hnb⟩:∃ nb,nb=w3.heap.size:=⟨_,rfl⟩
   have hnz:wz.heap[nb]?=some (.cells #[.slice a1 (bM X).lives.length c1,.slice a2 X.reqs.length c2] 52 (0,0)):=by rw [hwz];exact az _ hnb
   rw [← hnb];exact key nb a1 c1 a2 c2 a3 c3 wz ⟨hbz,hnz,h1,h2,h3⟩
  ·refine aY _ (fun wz hwz=>?_);have hba:Below w2.heap.size w2 w3:=I0 (Hx ((Hv _ _).alloc (I3 _) _)) (hb3.mono (by simp));have hle:=I3 w2.heap.size
   have hbz:Below w2.heap.size w2 wz:=by rw [hwz];exact (hba.setCell hle _).setCell hle _
   have h1:aM w2.heap.size wz 6 (.slice a1 (bM X).lives.length c1) ((bM X).lives.map Lf.cells):=by rw [hwz];exact aG (aB (aB R1 (by simp) _) (by simp) _) (by simp)
   have h2:aM w2.heap.size wz 5 (.slice a2 X.reqs.length c2) (X.reqs.map Rq.cells):=by rw [hwz];exact aG (aB (aB R2 (by simp) _) (by simp) _) (by simp)
   have h3:aM w2.heap.size wz 1 (.slice a3 (ds X).length c3) ((ds X).map fun x=>[Value.int .i64 x]):=by rw [hwz];exact aG (aB (aB R3 (by simp) _) (by simp) _) (by simp)
   obtain ⟨nb,hnb⟩:∃ nb,nb=w2.heap.size:=⟨_,rfl⟩
   have hnz:wz.heap[nb]?=some (.cells #[.slice a1 (bM X).lives.length c1,.slice a2 X.reqs.length c2] 52 (0,0)):=by rw [hwz,hnb];exact aP (j:=1) (aP (j:=0) bxb (.slice a1 (bM X).lives.length c1)) (.slice a2 X.reqs.length c2)
   rw [← hnb];exact key nb a1 c1 a2 c2 a3 c3 wz ⟨hbz,hnz,h1,h2,h3⟩
 case jr1=>
  rintro nb a1 c1 a2 c2 a3 c3 wz ⟨hbz,hnz,h1,h2,h3⟩;have HAz:=Hu (HA2.out.below hbz);have z0:wz.cell? ⟨nb,0,none⟩=some (.slice a1 (bM X).lives.length c1):=ae hnz 0;have z1:wz.cell? ⟨nb,1,none⟩=some (.slice a2 X.reqs.length c2):=ae hnz 1;have x19:=HAz.out.c 19 (v:=V.l) rfl;have x20:=HAz.out.c 20 (v:=V.r) rfl;have xf:∀ n,wz.frozen? ⟨p,n,none⟩=false:=fun n=>HAz.out.free n;have hpz:=HAz.out.plt;have HK1:=Hu (dm HA2.out.g h1 (I3 _));have HK2:=Hu (dm HA2.out.g h2 (I3 _));have HK3:=Hu (show IntRow B S wz a3 c3 (ds X) from dm HA2.out.g h3 (I3 _));have HRf3:=Hu (show IntRow B S wz af cf_ (eN X) from bS HRf2.out (Fr.of_below hbz:Fr S w2 wz) (fun _ hx=>Or.inl hx));clear hbz hnz h1 h2 h3 x16;go_wp2_with fail;refine aY _ (fun w4 hw4=>?_);have A4:=HAz.out.cell 19 (.slice a1 (bM X).lives.length c1) { X with now:=N1,wnow:=N1,lists:=(bM X).lists,lives:=(bM X).lives } { V with w:=.slice aw (bM X).lists.length cw,l:=.slice a1 (bM X).lives.length c1 } rfl rfl rfl rfl rfl rfl { HAz.out.g.ro with li:=HK1.out };have fz:∀ u,Fr S wz (wz.setCell ⟨p,19,none⟩ u):=fun u=>cZ hpS 19 u;have A4:=A4.cell 20 (.slice a2 X.reqs.length c2) { X with now:=N1,wnow:=N1,lists:=(bM X).lists,lives:=(bM X).lives } { V with w:=.slice aw (bM X).lists.length cw,l:=.slice a1 (bM X).lives.length c1,r:=.slice a2 X.reqs.length c2 } rfl rfl rfl rfl rfl rfl { A4.g.ro with re:=bS HK2.out (fz _) (fun _ hx=>Or.inl hx) }
  have f4:Fr S wz w4:=by rw [hw4];exact (fz _).trans (cZ hpS 20 _) (fun _ hx=>Or.inl hx)
  have e0:({ X with now:=N1,wnow:=N1,lists:=(bM X).lists,lives:=(bM X).lives }:Wd)=fD X 0:=by rw [HN1.out];rfl
  rw [← hw4,e0] at A4;have HA4:=Hu A4;have HR4:=Hu (show IntRow B S w4 af cf_ (eN X) from bS HRf3.out f4 (fun _ hx=>Or.inl hx));have HW4:=Hu (show IntRow B S w4 a3 c3 (ds X) from bS HK3.out f4 (fun _ hx=>Or.inl hx));clear A4 hw4 f4 e0 z0 z1 x19 x20 xf fz HAz HK1 HK2 HK3 HRf3;go_loopw [69] (fun i wr=>∃ k:Nat,k≤(ds X).length∧i=.int .i64 k∧TR1 B p w S X af cf_ a3 c3 k wr) (fun i _=>(ds X).length - (intOf i).toNat)
  case atStart=>exact ⟨0,I4 _,rfl,S,_,_,HA4.out,HR4.out,HW4.out⟩
  case round=>
   obtain ⟨k,hk,rfl,SA,V1,vo1,A1,R1,W1⟩:=hrel;have HA1:=Hu A1;have HR1:=Hu R1;have HW1:=Hu W1;have hpr:=A1.plt;rcases (show k<(ds X).length∨(ds X).length=k by omega) with hlt|heq
   ·have hlt':(k:Int)<((ds X).length:Int):=by omega
    obtain ⟨b3,o3,rfl,hb3,ck⟩:=W1.at_ hlt;obtain ⟨y,hy⟩:∃ y,y=(ds X).getD k 0:=⟨_,rfl⟩;have hwo:=HX.out.wo k hlt;rw [← hy] at hwo ck;obtain ⟨y0,y11,⟨x,hx,hx1,hx8⟩,hrg,hlv,hhl,hz0⟩:=hwo;obtain ⟨n,rfl⟩:=Ih y0;rw [Id] at hz0;have hn12:n<12:=by omega
    have hn12i:(n:Int)<12:=by omega
    have HY:=Hu hy;obtain ⟨X1,hX1⟩:∃ X1,X1=fD X k:=⟨_,rfl⟩;have HX1:=Hu hX1;rw [← hX1] at A1 hrg hlv hhl hz0;have hkp:=pq ((ds X).take k) (bM X)
    have hrq:X1.reqs=X.reqs:=by rw [hX1];exact hkp.1
    have HLo:=Hu (show xq X1.lives X1.reqs (n:Int) x 0 from by rw [hlv,hrq];exact FK HX.out.bk2 hx);have HStep:=Hu (show fD X (k+1)=gp X1 (n:Int) from by unfold fD;rw [kS _ _ _ 0 hlt,← hy,hX1];rfl)
    have hwt:oI X1.lives (n:Int)=x.weight:=by unfold oI;rw [hlv,hx];rfl
    have HWt:=Hu hwt;obtain ⟨x0,x1,x2,x3,x4,x5⟩:=x;simp only at hx1 hx8;obtain ⟨m,rfl⟩:=Ih (show (0:Int)≤x2 by omega);have HAdd:=Hu (show yR X1.ring (n:Int) (m:Int) (bO ((gh X1.ring).set n m)) 0 from Or.inr (Or.inr ⟨n,m,hrg,rfl,hn12,rfl,by omega,by omega,Or.inr ⟨hz0,rfl,rfl⟩⟩));have hrl:=js hrg;have hrl2:X1.ring.length*16≤140737488351232:=by omega
    have HA2:=Hu A1;have x19:=HA2.out.c 19 (v:=V1.l) rfl;have x20:=HA2.out.c 20 (v:=V1.r) rfl;obtain ⟨al,cl,el,_⟩:=aq HA2.out.g.gr.1.li.1;obtain ⟨ar,cr,er,_⟩:=aq HA2.out.g.gr.1.re.1;rw [el] at x19;rw [er] at x20;have HL:=Hu HA2.out.g.gr.1.li.1;have HR:=Hu HA2.out.g.gr.1.re.1;rw [el] at HL;rw [er] at HR;have HHl:=Hu hhl;clear hX1 hy R1 W1 A1 hrq hkp hwt hx hlv hrg hz0 hrl el er hhl y11;go_wp2_with (go_at_call 70;refine (iG _ _ X1.lives X1.reqs (n:Int) ⟨x0,x1,(m:Int),x3,x4,x5⟩ 0 _ HL.out HR.out HLo.out).mono ?_;rintro e w5 ⟨he,hb5⟩;simp only [Lf.agg] at he;subst he);refine aY _ (fun w6 hw6=>?_)
    have b6:Below wr.heap.size wr w6:=by rw [hw6];exact hb5.alloc hb5.size _
    obtain ⟨bl,hbl⟩:∃ bl,bl=w5.heap.size:=⟨_,rfl⟩
    have hl6:w6.heap[bl]?=some (.cells #[.int .i64 x0,.int .i64 x1,.int .i64 (m:Int),.int .i64 x3,.int .i64 x4,.int .i64 x5] 94 (0,0)):=by rw [hw6];exact az _ hbl
    have nbl:bl≠p:=by have:=hb5.size;omega
    rw [← hbl];have l2:w6.cell? ⟨bl,2,none⟩=some (.int .i64 (m:Int)):=ae hl6 2;have HA6:=Hu (HA2.out.below b6);have HR6:=Hu (show IntRow B SA w6 af cf_ (eN X) from bS HR1.out (Fr.of_below b6:Fr SA wr w6) (fun _ hx=>Or.inl hx));have HW6:=Hu (show IntRow B SA w6 (some ⟨b3,o3,none⟩) c3 (ds X) from bS HW1.out (Fr.of_below b6:Fr SA wr w6) (fun _ hx=>Or.inl hx));have x21:=HA6.out.c 21 (v:=V1.s) rfl;obtain ⟨ag,cg,eg,_⟩:=aq HA6.out.g.gr.1.sp.1;rw [eg] at x21;have HSp:=Hu HA6.out.g.gr.1.sp.1;rw [eg] at HSp;have hp6:=HA6.out.plt;have xf:∀ n,w6.frozen? ⟨p,n,none⟩=false:=fun n=>HA6.out.free n;clear hw6 hbl b6 hb5 x19 x20 eg hl6;refine Zr (fun w':World=>w'.cell? ⟨bl,2,none⟩=some (.int .i64 (m:Int))) (fun hHeld=>?_);refine eP 0 ?_;refine Zt 4 ?_;refine df 6 ?_;refine Zt 8 ?_;refine Z1 5 (fun K hK=>?_);go_simp;refine Zk hK fun hHeld=>?_;clear hK K;refine Z1 9 (fun K hK=>?_);go_simp;(go_at_call 71;refine (qa _ X1.ring _ _ _ _ _ (au HSp.out Zb) hrl2 HAdd.out).mono ?_;rintro e w7 ⟨v7,rfl,R7,hb7⟩;obtain ⟨a7,c7,rfl,_⟩:=aq R7.1;have bw7:Below w6.heap.size w6 w7:=I0 (Hx (Hv w6.heap.size w6)) (hb7.mono (by simp));have x21:=ah bw7 x21 hp6;have xf:∀ n,w7.frozen? ⟨p,n,none⟩=false:=(fun n=>(bw7.frozen (p:=⟨p,n,none⟩) hp6).trans (xf n));(try dsimp only));(try go_wp2_with fail);refine Zk hK fun hHeld=>?_;clear hK K;refine eP 10 ?_;refine df 14 ?_;refine Z1 16 (fun K hK=>?_);go_simp;refine Zk hK fun hHeld=>?_;clear hK K;refine Zd ?_;refine aY _ (fun w8 hw8=>?_);obtain ⟨ws,hws⟩:∃ ws,ws=bO ((gh X1.ring).set n m):=⟨_,rfl⟩;rw [← hws] at R7 hw8;have HWs:=Hu hws;have A7:=HA6.out.below bw7;have A8:=A7.cell 21 (.slice a7 ws.length c7) { X1 with ring:=ws } { V1 with s:=.slice a7 ws.length c7 } rfl rfl rfl rfl rfl rfl { A7.g.ro with sp:=dm HA6.out.g R7 (by simp) }
    have f8:Fr SA w6 w8:=by rw [hw8];exact (Fr.of_below bw7:Fr SA w6 w7).trans (cZ HA6.out.g.sp 21 _) (fun _ hx=>Or.inl hx)
    rw [← hw8] at A8;have HA8:=Hu A8;have HR8:=Hu (show IntRow B SA w8 af cf_ (eN X) from bS HR6.out f8 (fun _ hx=>Or.inl hx));have HW8:=Hu (show IntRow B SA w8 (some ⟨b3,o3,none⟩) c3 (ds X) from bS HW6.out f8 (fun _ hx=>Or.inl hx))
    have hn8:n<X1.health.length:=by rw [HHl.out];exact hn12
    obtain ⟨g,ch,eh,hg1,hg2,hg3,hg4,hg5⟩:=HA8.out.hrow (by intro e;simp only at e;rw [e] at hn8;simp at hn8);have x22:=HA8.out.c 22 (v:=V1.h) rfl;simp only at eh hg5;rw [HHl.out] at eh;rw [eh] at x22;have HEh:=Hu eh;have q0:w8.cell? ⟨g,n*4,none⟩=some (V1.m.getD n undef):=hg5 n hn8 0 (by omega);have q1:w8.cell? ⟨g,n*4+1,none⟩=some (.bool (X1.health.getD n Ht.zero).out):=hg5 n hn8 1 (by omega);have q2:w8.cell? ⟨g,n*4+2,none⟩=some (.int .i64 (X1.health.getD n Ht.zero).until_):=hg5 n hn8 2 (by omega);have q3:w8.cell? ⟨g,n*4+3,none⟩=some (.int .i64 (X1.health.getD n Ht.zero).times):=hg5 n hn8 3 (by omega);have hA9:=HA8.out.hset (by rw [HEh.out]) n hn8 ⟨[],false,0,0⟩ (.slice none 0 0) ⟨ix _ _,fun b o n c e _=>by cases e⟩
    have hX9:({ X1 with ring:=ws,health:=X1.health.set n Ht.zero }:Wd)=fD X (k+1):=by rw [HStep.out];unfold gp;rw [HWt.out,Id,Id,← HWs.out]
    have f9:Fr SA w8 ((((w8.setCell ⟨g,n*4,none⟩ (.slice none 0 0)).setCell ⟨g,n*4+1,none⟩ (.bool false)).setCell ⟨g,n*4+2,none⟩ (.int .i64 0)).setCell ⟨g,n*4+3,none⟩ (.int .i64 0)):=(((cZ hg3 _ _).trans (cZ hg3 _ _) (fun _ hx=>Or.inl hx)).trans (cZ hg3 _ _) (fun _ hx=>Or.inl hx)).trans (cZ hg3 _ _) (fun _ hx=>Or.inl hx);have HA9:=Hu hA9;have HX9:=Hu hX9;have HF9:=Hu f9;clear hw8 A7 A8 f8 bw7 hb7 x21 xf R7 hws eh hg5 hA9 hX9 f9 l2;go_wp2;go_roundw
    case rel=>
     refine ⟨k+1,by omega,by go_num,SA,{ V1 with s:=.slice a7 ws.length c7,m:=V1.m.set n (.slice none 0 0) },vo1,?_,bS HR8.out HF9.out (fun _ hx=>Or.inl hx),bS HW8.out HF9.out (fun _ hx=>Or.inl hx)⟩;rw [← HX9.out];exact HA9.out
    case measure=>simp [intOf];omega
   ·have hge:¬ (k:Int)<((ds X).length:Int):=by omega
    have e1:fD X k=cu X:=by rw [← heq];exact jo _ _ _
    rw [e1] at A1;obtain ⟨g,ch,eh,hg1,hg2,hg3,hg4,hg5⟩:=A1.hrow (by intro e;have:=HX.out.hl1;rw [e] at this;simp at this);rw [HX.out.hl1] at eh;have HA2:=Hu A1;have HEh:=Hu eh;have x22:=HA2.out.c 22 (v:=V1.h) rfl;rw [eh] at x22;have hkp:=pq (ds X) (bM X);have hcf:(cu X).cf=X.cf:=hkp.2.1
    have hnw:(cu X).now=N1:=by rw [HN1.out];exact hkp.2.2
    have HCf:=Hu hcf;have HNw:=Hu hnw;clear A1 R1 W1 HA1 e1 eh hg4 hg5 hkp hcf hnw HW1 heq;go_wp2_with fail;go_loopw [114] (fun i wr=>∃ k:Nat,k≤12∧i=.int .i64 k∧TR2 B p w S X af cf_ g ch k wr) (fun i _=>12 - (intOf i).toNat)
    case atStart=>exact ⟨0,by omega,rfl,SA,V1,vo1,by rw [back_0];exact HA2.out,HR1.out,HEh.out⟩
    case round=>
     obtain ⟨j,hj,rfl,SB,V2,vo2,A3,R3,eh⟩:=hrel;have HA3:=Hu A3;have HR3:=Hu R3;have HEh3:=Hu eh;have hpq:=A3.plt;rcases (show j<12∨j=12 by omega) with hlt|rfl
     ·have hlt':(j:Int)<12:=by omega
      have j0:(0:Int)≤(j:Int):=by omega
      have hln:(gm (cu X) j).health.length=12:=by rw [BE];exact HX.out.hl1
      have hj8:j<(gm (cu X) j).health.length:=by omega
      obtain ⟨g',ch',eh',hg1',hg2',hg3',hg4',hg5'⟩:=A3.hrow (by intro e;rw [e] at hj8;simp at hj8);rw [eh] at eh'
      obtain rfl:g=g':=by injection eh' with e _ _;injection e with e;injection e with e
      clear eh';have hat:=Ef (cu X) (k:=j) (by rw [HX.out.hl1];exact hlt);have hmr:=A3.g.ro.mr j hj8;rw [hat] at hmr;have hb0:=HX.out.ba j hlt;have h9:=hg5' j hj8;rw [hat] at h9;obtain ⟨M,hM⟩:∃ M,M=(cu X).health.getD j Ht.zero:=⟨_,rfl⟩;rw [← hM] at hmr hb0 h9;have hstp:=yH (cu X) (k:=j) (by rw [HX.out.hl1];exact hlt);rw [← hM,HNw.out] at hstp;have HStp:=Hu hstp;have hba:=zK X.cf M N1 (by rw [HN1.out];exact hb0);obtain ⟨came,hba⟩:=hba;obtain ⟨M2,hM2⟩:∃ M2,M2=fI N1 M:=⟨_,rfl⟩;rw [← hM2] at hba;have HM2:=Hu hM2;obtain ⟨mv,hmv⟩:∃ mv,mv=V2.m.getD j undef:=⟨_,rfl⟩;rw [← hmv] at hmr h9;obtain ⟨am,cm,rfl,_⟩:=fq hmr.1;have hT:=(fC hb0).2.2.2.1;have hW:=(fC hb0).1.2.1;obtain ⟨M_,out_,u_,t_⟩:=M;obtain ⟨N_,o2_,u2_,t2_⟩:=M2;simp only at hba hmr hb0 h9 hT;have HMl:=Hu (show M_.length≤140737488351232 by omega);have HBa:=Hu hba;have HMr:=Hu hmr.1;have q0:wr.cell? ⟨g,j*4,none⟩=some (.slice am M_.length cm):=h9 0 (by omega);have q1:wr.cell? ⟨g,j*4+1,none⟩=some (.bool out_):=h9 1 (by omega);have q2:wr.cell? ⟨g,j*4+2,none⟩=some (.int .i64 u_):=h9 2 (by omega);have q3:wr.cell? ⟨g,j*4+3,none⟩=some (.int .i64 t_):=h9 3 (by omega);clear hln A3 R3 eh hg4' hg5' hmr hb0 h9 hM hba hM2 hmv hstp hat hT;go_wp2_with fail;refine aY _ (fun w5 hw5=>?_)
      have b5:Below wr.heap.size wr w5:=by rw [hw5];exact (Hv _ _).alloc (I3 _) _
      obtain ⟨bh,hbh⟩:∃ bh,bh=wr.heap.size:=⟨_,rfl⟩
      have hh5:w5.heap[bh]?=some (.cells #[.slice am M_.length cm,.bool out_,.int .i64 u_,.int .i64 t_] 129 (0,0)):=by rw [hw5];exact az _ hbh
      have nbg:¬ bh=g:=by omega
      have ngb:¬ g=bh:=by omega
      rw [← hbh];have HA5:=Hu (HA3.out.below b5);have HR5:=Hu (show IntRow B SB w5 af cf_ (eN X) from bS HR3.out (Fr.of_below b5:Fr SB wr w5) (fun _ hx=>Or.inl hx));have HM5:=Hu (au HMr.out b5);have y0:w5.cell? ⟨bh,0,none⟩=some (.slice am M_.length cm):=ae hh5 0;have y1:w5.cell? ⟨bh,1,none⟩=some (.bool out_):=ae hh5 1;have y2:w5.cell? ⟨bh,2,none⟩=some (.int .i64 u_):=ae hh5 2;have y3:w5.cell? ⟨bh,3,none⟩=some (.int .i64 t_):=ae hh5 3;have q0:=ah b5 q0 hg1';have q1:=ah b5 q1 hg1';have q2:=ah b5 q2 hg1';have q3:=ah b5 q3 hg1'
      have hg5:g<w5.heap.size:=by have:=b5.size;omega
      have hp5:=HA5.out.plt;have x22:=HA5.out.c 22 (v:=V2.h) rfl;rw [HEh3.out] at x22
      have x13:w5.cell? ⟨p,13,none⟩=some (.int .i64 X.cf.ww):=by have:=HA5.out.c 13 (v:=.int .i64 (cu X).cf.ww) rfl;rw [HCf.out] at this;exact this
      have x14:w5.cell? ⟨p,14,none⟩=some (.int .i64 X.cf.wf):=by have:=HA5.out.c 14 (v:=.int .i64 (cu X).cf.wf) rfl;rw [HCf.out] at this;exact this
      have x15:w5.cell? ⟨p,15,none⟩=some (.int .i64 X.cf.wh):=by have:=HA5.out.c 15 (v:=.int .i64 (cu X).cf.wh) rfl;rw [HCf.out] at this;exact this
      have x16:w5.cell? ⟨p,16,none⟩=some (.int .i64 N1):=by have:=HA5.out.c 16 (v:=.int .i64 (cu X).now) rfl;rw [HNw.out] at this;exact this
      have gf:∀ n,w5.frozen? ⟨g,n,none⟩=false:=fun n=>by obtain ⟨_,_,e,_,_,_,f,_⟩:=HA5.out.hrow (by intro e;rw [e] at hj8;simp at hj8);rw [HEh3.out] at e;injection e with e _ _;injection e with e;injection e with e;rw [e];exact f n
      clear hw5 hbh b5 hh5;refine Zr (fun w':World=>w'.cell? ⟨p,22,none⟩=some (.slice (some ⟨g,0,none⟩) 12 ch)∧w'.cell? ⟨p,13,none⟩=some (.int .i64 X.cf.ww)∧w'.cell? ⟨p,14,none⟩=some (.int .i64 X.cf.wf)∧w'.cell? ⟨p,15,none⟩=some (.int .i64 X.cf.wh)∧w'.cell? ⟨p,16,none⟩=some (.int .i64 N1)∧w'.cell? ⟨bh,0,none⟩=some (.slice am M_.length cm)∧w'.cell? ⟨bh,1,none⟩=some (.bool out_)∧w'.cell? ⟨bh,2,none⟩=some (.int .i64 u_)∧w'.cell? ⟨bh,3,none⟩=some (.int .i64 t_)) (fun hHeld=>?_);refine ep 0 ?_;refine ep 8 ?_;refine df 16 ?_;refine Z1 18 (fun K hK=>?_);go_simp;(go_at_call 45;refine (qd _ _ _ M_ out_ u_ t_ N1 N_ o2_ u2_ t2_ came 0 _ _ (au HM5.out Zb) HMl.out HBa.out).mono ?_;rintro e w6 ⟨v6,rfl,R6,hb6⟩;obtain ⟨a6,c6,rfl,_⟩:=fq R6.1;have bw6:Below w5.heap.size w5 w6:=I0 (Hx (Hv w5.heap.size w5)) (hb6.mono (by simp));have q0:=ah bw6 q0 hg5;have q1:=ah bw6 q1 hg5;have q2:=ah bw6 q2 hg5;have q3:=ah bw6 q3 hg5;have gf:∀ n,w6.frozen? ⟨g,n,none⟩=false:=(fun n=>(bw6.frozen (p:=⟨g,n,none⟩) hg5).trans (gf n));(try dsimp only));(try go_wp2_with fail);refine Zk hK fun hHeld=>?_;clear hK K;refine eP 19 ?_;refine Zt 23 ?_;refine Z1 24 (fun K hK=>?_);go_simp;refine Zk hK fun hHeld=>?_;clear hK K;refine Zd ?_;refine aY _ (fun w7 hw7=>?_);have A6:=HA5.out.below bw6;have A7:=A6.hset (by rw [HEh3.out]) j hj8 ⟨N_,o2_,u2_,t2_⟩ (.slice a6 N_.length c6) (dm HA5.out.g R6 (by simp));rw [← hw7] at A7
      have f7:Fr SB w5 w7:=by rw [hw7];exact (Fr.of_below bw6:Fr SB w5 w6).trans ((((cZ hg3' _ _).trans (cZ hg3' _ _) (fun _ hx=>Or.inl hx)).trans (cZ hg3' _ _) (fun _ hx=>Or.inl hx)).trans (cZ hg3' _ _) (fun _ hx=>Or.inl hx)) (fun _ hx=>Or.inl hx)
      have eX:({ gm (cu X) j with health:=(gm (cu X) j).health.set j ⟨N_,o2_,u2_,t2_⟩ }:Wd)=gm (cu X) (j+1):=by
       rw [HM2.out,← HStp.out]
       rfl
      rw [eX] at A7;have HA7:=Hu A7;have HR7:=Hu (show IntRow B SB w7 af cf_ (eN X) from bS HR5.out f7 (fun _ hx=>Or.inl hx));clear hw7 A6 A7 f7 eX bw6 hb6 R6 q0 q1 q2 q3 y0 y1 y2 y3 x22 x13 x14 x15 x16 gf;go_wp2;go_roundw
      case rel=>exact ⟨j+1,by omega,by go_num,SB,{ V2 with m:=V2.m.set j (.slice a6 N_.length c6) },vo2,HA7.out,HR7.out,HEh3.out⟩
      case measure=>simp [intOf];omega
     ·have hge2:¬ ((12:Nat):Int)<12:=by omega
      have e2:gm (cu X) 12=iU X:=Ee _ HX.out.hl1;have A4:=HA3.out;rw [e2] at A4;have HA4:=Hu A4;clear A3 R3 eh A4 e2 HA3 HEh3;go_wp2_with fail;go_loopw [146] (fun i wr=>∃ k:Nat,k≤(eN X).length∧i=.int .i64 k∧TR3 B p w S X af cf_ k wr) (fun i _=>(eN X).length - (intOf i).toNat)
      case atStart=>exact ⟨0,I4 _,rfl,SB,V2,vo2,HA4.out,HR3.out⟩
      case round=>
       obtain ⟨k,hk,rfl,SC,V3,vo3,A5,R5⟩:=hrel;have HA5:=Hu A5;have HR5:=Hu R5;have hpq:=A5.plt;rcases (show k<(eN X).length∨(eN X).length=k by omega) with hlt|heq
       ·have hlt':(k:Int)<((eN X).length:Int):=by omega
        obtain ⟨b3,o3,rfl,hb3,ck⟩:=R5.at_ hlt;obtain ⟨y,hy⟩:∃ y,y=(eN X).getD k 0:=⟨_,rfl⟩;have hdu:=HX.out.du k hlt;rw [← hy] at hdu ck
        have hstp:fU X (k+1)=lX (fU X k) y:=by unfold fU;rw [kS _ _ _ 0 hlt,← hy]
        obtain ⟨P,hP⟩:∃ P,P=fU X k:=⟨_,rfl⟩;rw [← hP] at hdu A5 hstp;obtain ⟨hgw,⟨hfo,hfi⟩,hol⟩:=hdu;obtain ⟨i,hi⟩:∃ i,i=eY P.1 y:=⟨_,rfl⟩;rw [← hi] at hfo hfi;have h40:=hgw.len;have HGw:=Hu hgw;have HFo:=Hu hfo;have HSt:=Hu hstp;have HI:=Hu hi;have HA6:=Hu A5;have i0:(0:Int)≤(i:Int):=by omega
        have i1:(i:Int)<(P.1.flows.length:Int):=by omega
        obtain ⟨f,hf⟩:∃ f,P.1.flows.getD i Fl.zero=f:=⟨_,rfl⟩
        have hfm:f∈P.1.flows:=by rw [← hf,aN hfi];exact If hfi
        have HF:=Hu hf;have HFm:=Hu hfm;clear hP hy hi hgw hfo hstp A5 R5 HA5 hf hfm;go_wp2_with fail;have hfd:=lP HA6.out.g.gr y (by omega);rw [HFo.out] at hfd;refine hfd.mono ?_;rintro e w5 ⟨rfl,hb5⟩;have HA7:=Hu (HA6.out.below hb5);have HR7:=Hu (show IntRow B SC w5 (some ⟨b3,o3,none⟩) cf_ (eN X) from bS HR5.out (Fr.of_below hb5:Fr SC wr w5) (fun _ hx=>Or.inl hx));obtain ⟨g3,c3_,ev⟩:=HA7.out.shape (by intro e;rw [e] at hfi;simp at hfi);obtain ⟨_,k1,k2,k3,k4,k5⟩:=HA7.out.flow ev hfi HF.out;obtain ⟨f0,f1,f2,f3,f4,f5,f6⟩:=f;have d4:w5.cell? ⟨g3,i*7+4,none⟩=some (.bool f4):=k5 4 (by omega);have x18:=HA7.out.c 18 (v:=V3.f) rfl;rw [ev] at x18;have hp5:=HA7.out.plt;clear hfd hb5 ev k5
        cases f4 with
        | true=>
         go_wp2_with fail;refine (ip HA7.out.g i hfi (by omega) ⟨6,0,0,0,0,0,1⟩ _ HF.out _ (HGw.out.drop HFm.out) (HGw.out.tabd HFm.out) HGw.out.bk HGw.out.wh HGw.out.wn (by omega)).mono ?_;rintro e w6 hc6;obtain ⟨S6,V6,vo6,rfl,A8,_,hr8⟩:=HA7.out.call2 hc6;have HA8:=Hu A8;have HR8:=Hu (show IntRow B S6 w6 (some ⟨b3,o3,none⟩) cf_ (eN X) from hr8 _ _ _ HR7.out);have HE:=Hu (show fU X (k+1)=((gQ P.1 i 6 1).1,P.2++(gQ P.1 i 6 1).2) from by rw [HSt.out];unfold lX;rw [← HI.out,HF.out,if_pos rfl]);clear A8 hc6 hr8;go_wp2;go_roundw
         case rel=>
          refine ⟨k+1,by omega,by go_num,S6,V6,vo6,?_,HR8.out⟩;rw [HE.out];simp only;rw [Bp HF.out,Bo HF.out];exact HA8.out
         case measure=>simp [intOf];omega
        | false=>
         go_wp2_with fail;refine (mn HA7.out.g HGw.out i hfi 5 (by omega)).mono ?_;rintro e w6 hc6;obtain ⟨S6,V6,vo6,rfl,A8,_,hr8⟩:=HA7.out.call2 hc6;have HA8:=Hu A8;have HR8:=Hu (show IntRow B S6 w6 (some ⟨b3,o3,none⟩) cf_ (eN X) from hr8 _ _ _ HR7.out);have HE:=Hu (show fU X (k+1)=((eU P.1 i 5).1,P.2++(eU P.1 i 5).2) from by rw [HSt.out];unfold lX;rw [← HI.out,HF.out,if_neg (by simp)]);clear A8 hc6 hr8;go_wp2;go_roundw
         case rel=>
          refine ⟨k+1,by omega,by go_num,S6,V6,vo6,?_,HR8.out⟩;rw [HE.out];exact HA8.out
         case measure=>simp [intOf];omega
       ·have hge3:¬ (k:Int)<((eN X).length:Int):=by omega
        have e3:fU X k=bV X:=by rw [← heq];exact jo _ _ _
        rw [e3] at A5;have HA6:=Hu A5;clear A5 R5 HA5 e3 heq HR5;have x19:=HA6.out.c 19 (v:=V3.l) rfl;obtain ⟨al,cl,el,hal⟩:=aq HA6.out.g.gr.1.li.1;rw [el] at x19;have HLv:=Hu (show dd (NI B SC) wr 6 (.slice al (bV X).1.lives.length cl) ((bV X).1.lives.map Lf.cells) from by rw [← el];exact HA6.out.g.ro.li);have hL12:=HX.out.b3.1;clear el hal;go_wp2_with fail;go_loopw [177] (fun i wr=>∃ k:Nat,k≤(bV X).1.lives.length∧i=.int .i64 k∧TR4 B p w S X al cl k wr) (fun i _=>(bV X).1.lives.length - (intOf i).toNat)
        case atStart=>exact ⟨0,I4 _,rfl,SC,V3,vo3,HA6.out,HLv.out⟩
        case round=>
         obtain ⟨k,hk,rfl,SD,V4,vo4,A7,L7⟩:=hrel;have HA7:=Hu A7;have HL7:=Hu L7;have hpq:=A7.plt;rcases (show k<(bV X).1.lives.length∨(bV X).1.lives.length=k by omega) with hlt|heq
         ·have hlt':(k:Int)<((bV X).1.lives.length:Int):=by omega
          obtain ⟨bl,ol,rfl,hbl,q⟩:∃ bl ol,al=some ⟨bl,ol,none⟩∧bl<wr.heap.size∧∀ i j,i<(bV X).1.lives.length→j<6→wr.cell? ⟨bl,ol+i*6+j,none⟩=((bV X).1.lives.getD i Lf.zero).cells[j]?:=by
           obtain ⟨_,_,e0,_,_,_,pt⟩:=aK Lf.zero L7.1;injection e0 with e01 _ _;obtain ⟨b1,o1,e1,h1,q⟩:=pt (by intro e;rw [e] at hlt;simp at hlt);exact ⟨b1,o1,e01.trans e1,h1,q⟩
          have hdr:=HX.out.dr k hlt
          have hstp:dX X (k+1)=gb (dX X k) ((bV X).1.lives.getD k Lf.zero):=by unfold dX;rw [kS _ _ _ Lf.zero hlt]
          have hold:∀ j,j<6→wr.cell? ⟨bl,ol+k*6+j,none⟩=((bV X).1.lives.getD k Lf.zero).cells[j]?:=fun j hj=>q k j hlt hj;have hb0:=(HX.out.b3.2.2.1 k hlt).1.1;have hb11:=(HX.out.b3.2.2.1 k hlt).1.2.1;obtain ⟨s,hs⟩:∃ s,s=(bV X).1.lives.getD k Lf.zero:=⟨_,rfl⟩;rw [← hs] at hdr hstp hold hb0 hb11;obtain ⟨P,hP⟩:∃ P,P=dX X k:=⟨_,rfl⟩;rw [← hP] at hdr hstp A7;obtain ⟨s0,s1,s2,s3,s4,s5⟩:=s;simp only at hb0 hb11;have a0:wr.cell? ⟨bl,ol+k*6,none⟩=some (.int .i64 s0):=hold 0 (by omega);have a1:wr.cell? ⟨bl,ol+k*6+1,none⟩=some (.int .i64 s1):=hold 1 (by omega);have a2:wr.cell? ⟨bl,ol+k*6+2,none⟩=some (.int .i64 s2):=hold 2 (by omega);have a3_:wr.cell? ⟨bl,ol+k*6+3,none⟩=some (.int .i64 s3):=hold 3 (by omega);have a4:wr.cell? ⟨bl,ol+k*6+4,none⟩=some (.int .i64 s4):=hold 4 (by omega);have a5:wr.cell? ⟨bl,ol+k*6+5,none⟩=some (.int .i64 s5):=hold 5 (by omega);have HDr:=Hu hdr;have HSt:=Hu hstp;have HA8:=Hu A7;clear q hold hs hP hdr hstp A7 L7 HA7;go_wp2_with fail;refine aY _ (fun w5 hw5=>?_)
          have b5:Below wr.heap.size wr w5:=by rw [hw5];exact (Hv _ _).alloc (I3 _) _
          obtain ⟨bx,hbx⟩:∃ bx,bx=wr.heap.size:=⟨_,rfl⟩
          have hx5:w5.heap[bx]?=some (.cells #[.int .i64 s0,.int .i64 s1,.int .i64 s2,.int .i64 s3,.int .i64 s4,.int .i64 s5] 94 (0,0)):=by rw [hw5];exact az _ hbx
          rw [← hbx];have HA9:=Hu (HA8.out.below b5);have HL9:=Hu (show dd (NI B SD) w5 6 (.slice (some ⟨bl,ol,none⟩) (bV X).1.lives.length cl) ((bV X).1.lives.map Lf.cells) from bS HL7.out (Fr.of_below b5:Fr SD wr w5) (fun _ hx=>Or.inl hx));have y0:w5.cell? ⟨bx,0,none⟩=some (.int .i64 s0):=ae hx5 0;have y1:w5.cell? ⟨bx,1,none⟩=some (.int .i64 s1):=ae hx5 1;have y4:w5.cell? ⟨bx,4,none⟩=some (.int .i64 s4):=ae hx5 4;obtain ⟨nw,hnw⟩:∃ nw,nw=P.1.now:=⟨_,rfl⟩;have HNw:=Hu hnw
          have x16:w5.cell? ⟨p,16,none⟩=some (.int .i64 nw):=by rw [hnw];exact HA9.out.c 16 (v:=.int .i64 P.1.now) rfl
          have hp5:=HA9.out.plt;clear hw5 hbx b5 hx5 hnw a0 a1 a2 a3_ a4 a5 HA8 HL7;by_cases h3:s1=3
          ·subst h3;by_cases hu:nw<s4
           ·have HE:=Hu (show dX X (k+1)=P from by rw [HSt.out];unfold gb;rw [if_pos (Or.inr (by rw [← HNw.out];exact hu))]);refine Zr (fun w':World=>w'.cell? ⟨bx,1,none⟩=some (.int .i64 3)∧w'.cell? ⟨bx,4,none⟩=some (.int .i64 s4)∧w'.cell? ⟨p,16,none⟩=some (.int .i64 nw)) (fun hHeld=>?_);exact Q52
           ·have hu':¬ s4 > nw:=hu;have HE:=Hu (show dX X (k+1)=(dK P.1.tab s0).foldl oQ P from by rw [HSt.out];unfold gb;rw [if_neg (by intro h;rcases h with h|h;exact h rfl;rw [← HNw.out] at h;exact hu h)]);refine Zr (fun w':World=>w'.cell? ⟨bx,1,none⟩=some (.int .i64 3)∧w'.cell? ⟨bx,4,none⟩=some (.int .i64 s4)∧w'.cell? ⟨p,16,none⟩=some (.int .i64 nw)) (fun hHeld=>?_);refine ep 0 ?_;refine eP 8 ?_;refine Zt 12 ?_;refine Zd ?_;go_wp2_with fail;refine aY _ (fun w6 hw6=>?_)
            have b6:Below w5.heap.size w5 w6:=by rw [hw6];exact Hx (Hv _ _)
            have HA10:=Hu (HA9.out.below b6);have HL10:=Hu (show dd (NI B SD) w6 6 (.slice (some ⟨bl,ol,none⟩) (bV X).1.lives.length cl) ((bV X).1.lives.map Lf.cells) from bS HL9.out (Fr.of_below b6:Fr SD w5 w6) (fun _ hx=>Or.inl hx))
            have y0:w6.cell? ⟨bx,0,none⟩=some (.int .i64 s0):=by rw [hw6];exact y0
            have hdr:=HDr.out (by trivial) (by rw [← HNw.out];omega);obtain ⟨htm,hdr⟩:=hdr;have HDr2:=Hu hdr;have HTm:=Hu htm
            obtain ⟨bt,ot,ct,et,hbt,hqt⟩:∃ bt ot ct,V4.t=.slice (some ⟨bt,ot,none⟩) P.1.tab.length ct∧bt<w6.heap.size∧∀ i j,i<P.1.tab.length→j<4→w6.cell? ⟨bt,ot+i*4+j,none⟩=(P.1.tab.getD i Sl.zero).cells[j]?:=by
             obtain ⟨a,c,e,_,_,_,q⟩:=aK Sl.zero HA10.out.g.gr.1.ta.1;obtain ⟨b,o,rfl,hb,hq⟩:=q (by intro e;have:=htm.1;rw [e] at this;simp at this);exact ⟨b,o,c,e,hb,hq⟩
            have x17:=HA10.out.c 17 (v:=V4.t) rfl;rw [et] at x17;have HTb:=Hu HA10.out.g.gr.1.ta.1;rw [et] at HTb;have HQt:=Hu hqt;obtain ⟨D,hD⟩:∃ D,D=iX P.1.tab s0 P.1.tab.length:=⟨_,rfl⟩
            have hD40:D.length≤40:=by rw [hD];exact Iq (kL _ _ _) htm.2.1
            have HD_:=Hu hD;have hp6:=HA10.out.plt;have HOf:=Hu (show ∀ W,W=w6.drew→Calls Tryz.prog 75 #[.agg #[.slice (some ⟨bt,ot,none⟩) P.1.tab.length ct],.int .i64 s0] W (Eu W P.1.tab s0) from fun W hW=>by subst hW;exact qc bt ot ct P.1.tab s0 _ hbt htm (dD HTb.out 1) hqt);clear hw6 b6 hdr htm et hqt hD y1 y4 x16;refine Zr (fun w':World=>w'.cell? ⟨p,17,none⟩=some (.slice (some ⟨bt,ot,none⟩) P.1.tab.length ct)∧w'.cell? ⟨bx,0,none⟩=some (.int .i64 s0)) (fun hHeld=>?_);refine eP 0 ?_;refine df 4 ?_;refine Zt 6 ?_;refine Z1 7 (fun K hK=>?_);go_simp;(go_at_call 75;refine (HOf.out _ rfl).mono ?_;rintro e w7 ⟨v7,rfl,R7,hb7⟩;rw [← HD_.out] at R7;obtain ⟨a7,c7,rfl,_⟩:=aq R7.1;(try dsimp only));(try go_wp2_with fail);refine Zk hK fun hHeld=>?_;clear hK K;refine eP 8 ?_;refine Zt 12 ?_;refine Zd ?_;have bw7:Below w6.heap.size w6 w7:=I0 (Hx (Hv w6.heap.size w6)) (hb7.mono (by simp));have HA11:=Hu (HA10.out.below bw7);have HL11:=Hu (show dd (NI B SD) w7 6 (.slice (some ⟨bl,ol,none⟩) (bV X).1.lives.length cl) ((bV X).1.lives.map Lf.cells) from bS HL10.out (Fr.of_below bw7:Fr SD w6 w7) (fun _ hx=>Or.inl hx));have HH11:=Hu (dm HA10.out.g R7 (by simp));clear bw7 hb7 R7 x17 y0 hbt;go_wp2_with fail;go_loopw [207] (fun i wr=>∃ j:Nat,j≤D.length∧i=.int .i64 j∧TR5 B p w S X (some ⟨bl,ol,none⟩) cl P s0 D a7 c7 j wr) (fun i _=>D.length - (intOf i).toNat)
            case atStart=>exact ⟨0,I4 _,rfl,SD,V4,vo4,HA11.out,HL11.out,HH11.out⟩
            case round=>
             obtain ⟨j,hj,rfl,SE,V5,vo5,A12,L12,H12⟩:=hrel;have HL12:=Hu L12;have HH12:=Hu H12;have hpq:=A12.plt;rcases (show j<D.length∨D.length=j by omega) with hlj|hej
             ·have hlj':(j:Int)<(D.length:Int):=by omega
              obtain ⟨bd,od,rfl,hbd,q⟩:∃ bl ol,a7=some ⟨bl,ol,none⟩∧bl<wr.heap.size∧∀ i j,i<D.length→j<2→wr.cell? ⟨bl,ol+i*2+j,none⟩=(D.getD i Hd.zero).cells[j]?:=by
               obtain ⟨_,_,e0,_,_,_,pt⟩:=aK Hd.zero H12.1;injection e0 with e01 _ _;obtain ⟨b1,o1,e1,h1,q⟩:=pt (by intro e;rw [e] at hlj;simp at hlj);exact ⟨b1,o1,e01.trans e1,h1,q⟩
              obtain ⟨hh,hhh⟩:∃ hh,hh=D.getD j Hd.zero:=⟨_,rfl⟩;have h0:=q j 0 hlj (by omega);have h1:=q j 1 hlj (by omega)
              have hsl:(dK P.1.tab s0).length=D.length:=by unfold dK;rw [I9,← HD_.out]
              have hsg:(dK P.1.tab s0).getD j 0=hh.slot:=by unfold dK;rw [← HD_.out,hhh];simp [List.getD,hlj]
              have hdu:=HDr2.out j (by rw [hsl];exact hlj)
              have hstp:mQ P s0 (j+1)=oQ (mQ P s0 j) hh.slot:=by unfold mQ;rw [kS _ _ _ 0 (by rw [hsl];exact hlj),hsg]
              rw [hsg] at hdu;rw [← hhh] at h0 h1;obtain ⟨Z,hZ⟩:∃ Z,Z=mQ P s0 j:=⟨_,rfl⟩;(try simp only at hdu);rw [← hZ] at hdu A12 hstp;obtain ⟨y,gy⟩:=hh;(try simp only at hdu);(try simp only at hstp);simp only [Hd.cells,I5,I6,Nat.add_zero] at h0 h1;obtain ⟨hgw,⟨hfo,hfi⟩,hol⟩:=hdu;obtain ⟨i,hi⟩:∃ i,i=eY Z.1 y:=⟨_,rfl⟩;rw [← hi] at hfo hfi;have h40:=hgw.len;have HGw:=Hu hgw;have HFo:=Hu hfo;have HStp:=Hu hstp;have HI:=Hu hi;have HA12:=Hu A12;obtain ⟨f,hf⟩:∃ f,Z.1.flows.getD i Fl.zero=f:=⟨_,rfl⟩
              have hfm:f∈Z.1.flows:=by rw [← hf,aN hfi];exact If hfi
              have HF:=Hu hf;have HFm:=Hu hfm;clear q hhh hsl hsg hZ hi hgw hfo hstp A12 L12 H12 hf hfm;go_wp2_with fail;refine eV _ (fun w9 hw9=>?_)
              have b9:Below wr.heap.size wr w9:=by rw [hw9];exact (Hv _ _).alloc (I3 _) _
              have HA13:=Hu (HA12.out.below b9);have r9:=fun (sz:Nat) (v:Value) (L:List (List Value)) (h:dd (NI B SE) wr sz v L)=>bS h (Fr.of_below b9:Fr SE wr w9) (fun _ hx=>Or.inl hx);have HL13:=Hu (r9 _ _ _ HL12.out);have HH13:=Hu (r9 _ _ _ HH12.out);clear hw9 b9 r9 h0 h1;have hfd:=lP HA13.out.g.gr y (by omega);rw [HFo.out] at hfd;refine hfd.mono ?_;rintro e w10 ⟨rfl,hb10⟩;have HA14:=Hu (HA13.out.below hb10);have HL14:=Hu (bS HL13.out (Fr.of_below hb10:Fr SE w9 w10) (fun _ hx=>Or.inl hx));have HH14:=Hu (bS HH13.out (Fr.of_below hb10:Fr SE w9 w10) (fun _ hx=>Or.inl hx));clear hfd hb10;go_wp2_with fail;refine (ip HA14.out.g i hfi (by omega) ⟨6,0,0,0,0,0,2⟩ _ HF.out _ (HGw.out.drop HFm.out) (HGw.out.tabd HFm.out) HGw.out.bk HGw.out.wh HGw.out.wn (by omega)).mono ?_;rintro e w11 hc11;obtain ⟨S6,V6,vo6,rfl,A15,_,hr15⟩:=HA14.out.call2 hc11;have HA15:=Hu A15;have HL15:=Hu (hr15 _ _ _ HL14.out);have HH15:=Hu (hr15 _ _ _ HH14.out);have HE2:=Hu (show mQ P s0 (j+1)=((gQ Z.1 i 6 2).1,Z.2++(gQ Z.1 i 6 2).2) from by rw [HStp.out];unfold oQ;rw [← HI.out]);clear A15 hc11 hr15;go_wp2;go_roundw
              case rel=>
               refine ⟨j+1,by omega,by go_num,S6,V6,vo6,?_,HL15.out,HH15.out⟩;rw [HE2.out];simp only;rw [Bp HF.out,Bo HF.out];exact HA15.out
              case measure=>simp [intOf];omega
             ·have hge5:¬ (j:Int)<(D.length:Int):=by omega
              have e5:dX X (k+1)=mQ P s0 j:=by rw [HE.out];unfold mQ;rw [← hej,show D.length=(dK P.1.tab s0).length from by unfold dK;rw [I9,← HD_.out]];exact (jo _ _ _).symm
              have HE5:=Hu e5;have HA12:=Hu A12;clear A12 L12 H12 e5 hej;go_wp2;go_roundw
              case rel=>exact ⟨k+1,by omega,by go_num,SE,V5,vo5,by rw [HE5.out];exact HA12.out,HL12.out⟩
              case measure=>simp [intOf];omega
          ·have hne:(s1 != 3)=true:=by simpa using h3
           have HE:=Hu (show dX X (k+1)=P from by rw [HSt.out];unfold gb;rw [if_pos (Or.inl h3)]);clear h3;refine Zr (fun w':World=>w'.cell? ⟨bx,1,none⟩=some (.int .i64 s1)) (fun hHeld=>?_);exact Q52
         ·have hge4:¬ (k:Int)<((bV X).1.lives.length:Int):=by omega
          have e4:dX X k=jc X:=by rw [← heq];exact jo _ _ _
          rw [e4] at A7;have HA8:=Hu A7;clear A7 L7 HA7 HL7 e4 heq;go_wp2_with fail;refine Ix (v:=.tuple #[]) (by simp [results,Tryz.results34,go_sem]) rfl ?_;exact HA8.out.fin trivial
theorem lO {B p:Nat} {w:World} {X:Wd} {O:List Out} {S:List Nat} {V:Vs} {vo:Value} (h:G B p w X O S V vo) (hm:GwMay X) (e:Ev) (hk:e.kind=2∨e.kind=3∨e.kind=4) (hO:O.length≤700000) :
  Calls Tryz.prog 35 #[.pointer (some ⟨p,0,none⟩),.agg (Ev.cells e).toArray] w (GTo B p w S (fj X e).1 (O++(fj X e).2) (fun _=>True) (.tuple #[])):=by
 have A0:=GA.start h
 have HX:=Hu hm
 have hp:=h.plt
 obtain ⟨e',he'⟩:∃ e',e'=e:=⟨_,rfl⟩
 have HE:=Hu he'
 rw [← he']
 obtain ⟨k,ky,sl,gn,gd,rq,bk,wt⟩:=e
 simp only at hk
 obtain ⟨c,hc⟩:∃ c,c=ub X.tab sl gn:=⟨_,rfl⟩
 have HC:=Hu hc
 obtain ⟨o,ho⟩:=DK hm.tb sl gn
 rw [← hc] at ho
 have HO:=Hu ho
 rw [he']
 unfold Ev.cells
 obtain ⟨FW,hFW⟩:∃ FW,FW=fj X ⟨k,ky,sl,gn,gd,rq,bk,wt⟩:=⟨_,rfl⟩
 have HFW:=Hu hFW
 rw [← hFW]
 obtain ⟨o0,o1,o2,o3⟩:=o
 have HA0:=Hu A0
 clear h hm A0 he' hc ho hFW HE e'
 go_enter Tryz.func35,Tryz.ntmps35
 go_wp2_with fail
 refine aY _ (fun wb hwb=>?_)
 have bwb:Below w.heap.size w wb:=by rw [hwb];exact (Hv _ _).alloc (I3 _) _
 obtain ⟨be,hbe⟩:∃ be,be=w.heap.size:=⟨_,rfl⟩
 have hbb:wb.heap[be]?=some (.cells #[.int .i64 k,.int .i64 ky,.int .i64 sl,.int .i64 gn,.bool gd,.int .i64 rq,.int .i64 bk,.int .i64 wt] 72 (0,0)):=by rw [hwb];exact az _ hbe
 have hbn:be∉S:=by rw [hbe];exact (HA0.out.no (I3 _)).2.2.2.1
 have hbp:be≠p:=by rw [hbe];exact (HA0.out.no (I3 _)).2.2.2.2
 have HA:=Hu (HA0.out.below bwb)
 rw [← hbe]
 clear hwb hbe bwb HA0
 have e0:wb.cell? ⟨be,0,none⟩=some (.int .i64 k):=ae hbb 0
 have e2:wb.cell? ⟨be,2,none⟩=some (.int .i64 sl):=ae hbb 2
 have e3:wb.cell? ⟨be,3,none⟩=some (.int .i64 gn):=ae hbb 3
 have e4:wb.cell? ⟨be,4,none⟩=some (.bool gd):=ae hbb 4
 have lbe:=lt_of_block hbb
 have x17:=HA.out.c 17 (v:=V.t) rfl
 obtain ⟨at_,ct,et,_⟩:=aq HA.out.g.gr.1.ta.1
 rw [et] at x17
 have HTb:=Hu HA.out.g.gr.1.ta.1
 rw [et] at HTb
 have hpb:=HA.out.plt
 clear et hbb
 refine Hc (P:=?jP1) (F:=fun _ wz=>Below wb.heap.size wb wz) (fun key=>?jm1) ?jr1
 case jm1=>
  refine Zr (fun w':World=>w'.cell? ⟨p,17,none⟩=some (.slice at_ X.tab.length ct)∧w'.cell? ⟨be,2,none⟩=some (.int .i64 sl)∧w'.cell? ⟨be,3,none⟩=some (.int .i64 gn)) (fun hHeld=>?_);refine ep 0 ?_;refine df 8 ?_;refine Z2 10 14 (fun K hK=>?_) (fun K hK=>?_);(focus (go_simp;(go_at_call 76;refine (fW X.tab sl gn ⟨o0,o1,o2,o3⟩ c _ _ (au HTb.out Zb) HO.out).mono ?_;rintro e w2 ⟨rfl,hb2⟩;have hz2:=hb2.size;(try simp at hz2);(try (have bxb:=aj hb2 (cJ wb _) (dL wb _);have bx0:w2.cell? ⟨wb.heap.size,0,none⟩=some (.int .i64 0):=ae bxb 0;have bx1:w2.cell? ⟨wb.heap.size,1,none⟩=some (.bool false):=ae bxb 1;have bx2:w2.cell? ⟨wb.heap.size,2,none⟩=some (.int .i64 0):=ae bxb 2;have bx3:w2.cell? ⟨wb.heap.size,3,none⟩=some (.int .i64 0):=ae bxb 3;have bxf:∀ n,w2.frozen? ⟨wb.heap.size,n,none⟩=false:=ap bxb));(try dsimp only));(try go_wp2_with fail);refine Zk hK fun hHeld=>?_;clear hK K;refine df 11 ?_;refine Zt 13 ?_;refine Z1 14 (fun K hK=>?_);go_simp;refine Zk hK fun hHeld=>?_;clear hK K));rotate_left 1;(focus (go_simp;refine Zk hK fun hHeld=>?_;clear hK K;refine Z1 10 (fun K hK=>?_);go_simp;(go_at_call 76;refine (fW X.tab sl gn ⟨o0,o1,o2,o3⟩ c _ _ (au HTb.out Zb) HO.out).mono ?_;rintro e w2 ⟨rfl,hb2⟩;have hz2:=hb2.size;(try simp at hz2);(try (have bxb:=aj hb2 (cJ wb _) (dL wb _);have bx0:w2.cell? ⟨wb.heap.size,0,none⟩=some (.int .i64 0):=ae bxb 0;have bx1:w2.cell? ⟨wb.heap.size,1,none⟩=some (.bool false):=ae bxb 1;have bx2:w2.cell? ⟨wb.heap.size,2,none⟩=some (.int .i64 0):=ae bxb 2;have bx3:w2.cell? ⟨wb.heap.size,3,none⟩=some (.int .i64 0):=ae bxb 3;have bxf:∀ n,w2.frozen? ⟨wb.heap.size,n,none⟩=false:=ap bxb));(try dsimp only));(try go_wp2_with fail);refine Zk hK fun hHeld=>?_;clear hK K;refine df 11 ?_;refine Zt 13 ?_));rotate_left 1;(all_goals (refine Z1 15 (fun K hK=>?_);go_simp;refine Zk hK fun hHeld=>?_;clear hK K;refine Zt 16 ?_));(all_goals refine Zd ?_)
  ·refine aY _ (fun wz hwz=>?_)
   have hbz:Below wb.heap.size wb wz:=by rw [hwz];exact (I0 (Hx (Hv _ _)) (hb2.mono (by simp))).alloc (by omega) _
   obtain ⟨nb,hnb⟩:∃ nb,nb=w2.heap.size:=⟨_,rfl⟩;rw [← hnb];exact key nb wz hbz
  ·refine aY _ (fun wz hwz=>?_);have hba:Below wb.heap.size wb w2:=I0 (Hx ((Hv _ _).alloc (I3 _) _)) (hb2.mono (by simp));have hle:=I3 wb.heap.size
   have hbz:Below wb.heap.size wb wz:=by rw [hwz];exact (((hba.setCell hle _).setCell hle _).setCell hle _).setCell hle _
   obtain ⟨nb,hnb⟩:∃ nb,nb=wb.heap.size:=⟨_,rfl⟩;rw [← hnb];exact key nb wz hbz
 case jr1=>
  intro nb wz hbz;have HAz:=Hu (HA.out.below hbz);have e0:=ah hbz e0 lbe;have e2:=ah hbz e2 lbe;have e3:=ah hbz e3 lbe;have e4:=ah hbz e4 lbe
  have lbz:be<wz.heap.size:=by have:=hbz.size;omega
  have hpz:=HAz.out.plt;clear hbz x17;by_cases hc0:c=0
  ·subst hc0;have hfi:=yz HX.out HC.out.symm;obtain ⟨i,hi⟩:∃ i,i=eY X sl:=⟨_,rfl⟩;have HI:=Hu hi;rw [← hi] at hfi;obtain ⟨hfi,hil,hfs,hfg⟩:=hfi;have HFi:=Hu hfi;have hlen:=HX.out.len;have hpS:p∈S:=HA.out.g.sp;obtain ⟨f,hf⟩:∃ f,X.flows.getD i Fl.zero=f:=⟨_,rfl⟩;rw [hf] at hfs hfg
   have hfm:f∈X.flows:=by rw [← hf,aN hil];exact If hil
   obtain ⟨s,es,hs,hsl,n1,n2,n3,n4,n5,n6⟩:=HX.out.num hfm;obtain ⟨f0,f1,f2,f3,f4,f5,f6⟩:=f;simp only at hfs hfg es n1 n2 n3 n4 n5 n6;subst es;obtain rfl:sl=(s:Int):=hfs.symm;obtain rfl:gn=f1:=hfg.symm;obtain ⟨b3,rfl⟩:=Ih n5;have HF:=Hu hf;have HFm:=Hu hfm;clear hi hfi hf hfm hfs hfg hsl;go_wp2_with fail;have hfd:=lP HAz.out.g.gr (s:Int) (by omega);rw [HFi.out] at hfd;refine hfd.mono ?_;rintro e w3 ⟨rfl,hb3⟩;have HA3:=Hu (HAz.out.below hb3);have e0:=ah hb3 e0 lbz;have e2:=ah hb3 e2 lbz;have e3:=ah hb3 e3 lbz;have e4:=ah hb3 e4 lbz
   have lb3:be<w3.heap.size:=by have:=hb3.size;omega
   obtain ⟨g,cfl,ev⟩:=HA3.out.shape (by intro e;rw [e] at hil;simp at hil);have HEv:=Hu ev;obtain ⟨_,k1,k2,k3,k4,k5⟩:=HA3.out.flow ev hil HF.out;have d3:w3.cell? ⟨g,i*7+3,none⟩=some (.int .i64 (b3:Int)):=k5 3 (by omega);have d4:w3.cell? ⟨g,i*7+4,none⟩=some (.bool f4):=k5 4 (by omega);have x18:=HA3.out.c 18 (v:=V.f) rfl;rw [ev] at x18;have i0:(0:Int)≤(i:Int):=by omega
   have i1:(i:Int)<(X.flows.length:Int):=by omega
   clear hfd hb3 ev k5;go_wp2_with fail;refine Zr (fun w':World=>w'.cell? ⟨be,2,none⟩=some (.int .i64 (s:Int))∧w'.cell? ⟨be,3,none⟩=some (.int .i64 gn)∧w'.cell? ⟨g,i*7+3,none⟩=some (.int .i64 (b3:Int))) (fun hHeld=>?_);refine ep 0 ?_;refine Zt 8 ?_;refine Z1 9 (fun K hK=>?_);go_simp;refine Zk hK fun hHeld=>?_;clear hK K;refine Z1 10 (fun K hK=>?_);go_simp;refine Zk hK fun hHeld=>?_;clear hK K;refine Zd ?_;refine aY _ (fun wo hwo=>?_)
   have bwo:Below w3.heap.size w3 wo:=by rw [hwo];exact Zb
   obtain ⟨bo,hbo⟩:∃ bo,bo=w3.heap.size:=⟨_,rfl⟩
   have hob:wo.heap[bo]?=some (.cells #[.int .i64 0,.int .i64 (s:Int),.int .i64 gn,.int .i64 (b3:Int),.int .i64 0,.int .i64 0,.int .i64 0] 79 (0,0)):=by rw [hwo];exact az _ hbo
   have hno:=HA3.out.no (Nat.le_of_eq hbo.symm);have HNo:=Hu hno;have HOb:=Hu hob;have HAo:=Hu (HA3.out.more bwo bo (Nat.le_of_eq hbo.symm) (by rw [hbo];exact lt_of_block (hbo ▸ hob)));have lbo:=lt_of_block hob;rw [← hbo];have e0:=ah bwo e0 lb3;have e4:=ah bwo e4 lb3
   have lb4:be<wo.heap.size:=by have:=bwo.size;omega
   have k1o:g<wo.heap.size:=by have:=bwo.size;omega
   have d3:=ah bwo d3 k1;have d4:=ah bwo d4 k1;have hpo:=HAo.out.plt;clear hwo hbo hob hno bwo x18 e2 e3;by_cases hk3:k=3
   ·subst hk3;go_wp2_with fail;refine (ip HAo.out.g i hil (by omega) ⟨7,0,0,0,0,0,0⟩ _ HF.out _ (HX.out.drop HFm.out) (HX.out.tabd HFm.out) HX.out.bk HX.out.wh HX.out.wn (by omega)).mono ?_;rintro e w5 hc5;obtain ⟨S5,V5,vo5,rfl,A5,_,_,_⟩:=HAo.out.call hc5;have HA5:=Hu A5;clear A5 hc5;go_wp2_with fail;refine Ix (v:=.tuple #[]) (by simp [results,Tryz.results35,go_sem]) rfl ?_;rw [HFW.out];unfold fj;simp only;rw [← HC.out,if_neg (by simp),if_pos trivial,← HI.out,Bp HF.out,Bo HF.out];exact HA5.out.fin trivial
   ·have hk3':(k == 3)=false:=by simpa using hk3
    have HK3:=Hu hk3;by_cases hk2:k=2
    ·subst hk2
     cases f4 with
     | true=>
      have hid:=HX.out.cf.1.1;have hn1:=HX.out.n1;have htb:=HX.out.tb.2.1
      have htm:dJ ⟨X.now+X.cf.idle,(s:Int)⟩ X.now:=by unfold dJ;simp only;omega
      have HTm:=Hu htm;clear hid hn1 htb htm;have x6:=HAo.out.c 6 (v:=.int .i64 X.cf.idle) rfl;have HEvx:=HEv;obtain ⟨_,q1,q2,_,q4,q5⟩:=HAo.out.flow HEv.out hil HF.out;have c0:wo.cell? ⟨g,i*7,none⟩=some (.int .i64 (s:Int)):=q5 0 (by omega);have c6:wo.cell? ⟨g,i*7+6,none⟩=some (.int .i64 f6):=q5 6 (by omega);have hFl:=Hu (nJ hil HF.out 6 (by omega) (.int .i64 (X.now+X.cf.idle)) ⟨(s:Int),gn,f2,(b3:Int),true,f5,X.now+X.cf.idle⟩ rfl);clear q5;go_wp2_with fail;refine (mp HAo.out.g g (i*7) (s:Int) X.cf.idle (X.flows.set i ⟨(s:Int),gn,f2,(b3:Int),true,f5,X.now+X.cf.idle⟩) S hpS q1 q2 c0 f6 c6 (q4 _) (fun w' X' V' gG ef ev _ _=>⟨(mW gG (by rw [ev];exact HEvx.out) (i*7+6) _ _ (by rw [ef];simp) (by rw [ef];exact hFl.out)).1,cZ k3 _ _⟩) HX.out.wh HX.out.wn HTm.out).mono ?_;rintro e w5 ⟨V5,rfl,G5,hK5,hF5,_⟩;have HA5:=Hu (HAo.out.same G5 (hF5.wide (fun x hx=>Ip _ hx)));have hob5:=(hF5.block bo lbo HNo.out.2.2.2.1).trans HOb.out;have HO5:=Hu hob5;have HN5:Hid (V5.f.ownBlock≠some bo∧V5.h.ownBlock≠some bo):=⟨by rw [hK5.1];exact HNo.out.1,by rw [hK5.2.1];exact HNo.out.2.1⟩;have u0:w5.cell? ⟨bo,0,none⟩=some (.int .i64 0):=ae hob5 0;have u1:w5.cell? ⟨bo,1,none⟩=some (.int .i64 (s:Int)):=ae hob5 1;have u2:w5.cell? ⟨bo,2,none⟩=some (.int .i64 gn):=ae hob5 2;have u3:w5.cell? ⟨bo,3,none⟩=some (.int .i64 (b3:Int)):=ae hob5 3;have u4:w5.cell? ⟨bo,4,none⟩=some (.int .i64 0):=ae hob5 4;have u5:w5.cell? ⟨bo,5,none⟩=some (.int .i64 0):=ae hob5 5;have u6:w5.cell? ⟨bo,6,none⟩=some (.int .i64 0):=ae hob5 6;have uf:∀ n,w5.frozen? ⟨bo,n,none⟩=false:=fun n=>ap hob5 n;clear G5 hK5 hF5 hob5;go_wp2_with fail;refine eV _ (fun w6 hw6=>?_);have g6:=r8 HA5.out.g bo 0 (.int .i64 3) Im HNo.out.2.2.2.2 HN5.out.1 HN5.out.2 HNo.out.2.2.1;have HA6:=Hu (HA5.out.same g6.1 g6.2);rw [← hw6] at HA6;clear hw6 g6;refine (dn HA6.out.g ⟨3,(s:Int),gn,(b3:Int),0,0,0⟩ (by omega)).mono ?_;rintro e w7 hc7;obtain ⟨S7,V7,vo7,rfl,A7,_,_,_⟩:=HA6.out.call hc7;have HA7:=Hu A7;clear A7 hc7;go_wp2_with fail;refine Ix (v:=.tuple #[]) (by simp [results,Tryz.results35,go_sem]) rfl ?_;rw [HFW.out];unfold fj;simp only;rw [← HC.out,if_neg (by simp),if_neg (by omega),if_pos trivial,← HI.out,HF.out];simp only [if_true];unfold mD;rw [HF.out];exact HA7.out.fin trivial
     | false=>
      have u0:wo.cell? ⟨bo,0,none⟩=some (.int .i64 0):=ae HOb.out 0;have u1:wo.cell? ⟨bo,1,none⟩=some (.int .i64 (s:Int)):=ae HOb.out 1;have u2:wo.cell? ⟨bo,2,none⟩=some (.int .i64 gn):=ae HOb.out 2;have u3:wo.cell? ⟨bo,3,none⟩=some (.int .i64 (b3:Int)):=ae HOb.out 3;have u4:wo.cell? ⟨bo,4,none⟩=some (.int .i64 0):=ae HOb.out 4;have u5:wo.cell? ⟨bo,5,none⟩=some (.int .i64 0):=ae HOb.out 5;have u6:wo.cell? ⟨bo,6,none⟩=some (.int .i64 0):=ae HOb.out 6;have uf:∀ n,wo.frozen? ⟨bo,n,none⟩=false:=fun n=>ap HOb.out n;go_wp2_with fail;refine eV _ (fun w6 hw6=>?_);have g6:=r8 HAo.out.g bo 0 (.int .i64 3) Im HNo.out.2.2.2.2 HNo.out.1 HNo.out.2.1 HNo.out.2.2.1;have HA6:=Hu (HAo.out.same g6.1 g6.2);rw [← hw6] at HA6;clear hw6 g6;refine (dn HA6.out.g ⟨3,(s:Int),gn,(b3:Int),0,0,0⟩ (by omega)).mono ?_;rintro e w7 hc7;obtain ⟨S7,V7,vo7,rfl,A7,_,_,_⟩:=HA6.out.call hc7;have HA7:=Hu A7;clear A7 hc7;go_wp2_with fail;refine Ix (v:=.tuple #[]) (by simp [results,Tryz.results35,go_sem]) rfl ?_;rw [HFW.out];unfold fj;simp only;rw [← HC.out,if_neg (by simp),if_neg (by omega),if_pos trivial,← HI.out,HF.out];simp only [Bool.false_eq_true,if_false];exact HA7.out.fin trivial
    ·obtain rfl:k=4:=by omega
     cases f4 with
     | true=>
      go_wp2_with fail;refine (dn HAo.out.g ⟨10,0,0,0,0,7,0⟩ (by omega)).mono ?_;rintro e w7 hc7;obtain ⟨S7,V7,vo7,rfl,A7,_,_,_⟩:=HAo.out.call hc7;have HA7:=Hu A7;clear A7 hc7;go_wp2_with fail;refine Ix (v:=.tuple #[]) (by simp [results,Tryz.results35,go_sem]) rfl ?_;rw [HFW.out];unfold fj;simp only;rw [← HC.out,if_neg (by simp),if_neg (by omega),if_neg (by omega),← HI.out,HF.out];simp only [if_true];exact HA7.out.fin trivial
     | false=>
      cases gd with
      | true=>
       have hid:=HX.out.cf.1.1;have hn1:=HX.out.n1;have htb:=HX.out.tb.2.1
       have htm:dJ ⟨X.now+X.cf.idle,(s:Int)⟩ X.now:=by unfold dJ;simp only;omega
       have HTm:=Hu htm;clear hid hn1 htb htm;have hb12:b3<12:=by omega
       have gf:∀ j,wo.frozen? ⟨g,j,none⟩=false:=(HAo.out.flow HEv.out hil HF.out).2.2.2.2.1;go_wp2_with fail;refine eV _ (fun wn hwn=>?_);have An:=HAo.out.flset HEv.out (i*7+4) (.bool true) (X.flows.set i ⟨(s:Int),gn,f2,(b3:Int),true,f5,f6⟩) (by simp) (nJ hil HF.out 4 (by omega) (.bool true) ⟨(s:Int),gn,f2,(b3:Int),true,f5,f6⟩ rfl)
       have hon:wn.heap[bo]?=wo.heap[bo]?:=by rw [hwn];exact I2 _ _ _ _ (fun e=>HNo.out.2.2.2.1 (by have e':bo=g:=e;rw [e'];exact k3))
       rw [← hwn] at An;have HAn:=Hu An;have HOn:=Hu (hon.trans HOb.out);have lbn:=lt_of_block (hon.trans HOb.out);clear hwn An hon;have HNt:=Hu HX.out.note;refine (oa HAn.out.g b3 hb12 false ⟨HNt.out.bk,HNt.out.hl,HNt.out.ht,HNt.out.m0,HNt.out.m1⟩).mono ?_;rintro e w4 ⟨m4,rfl,G4,hF4⟩;have hF4:=hF4 S (fun b hb=>(HA3.out.g.sh b hb).1);have HA4:=Hu (HAn.out.same G4 (hF4.wide (fun x hx=>Ip _ hx)));have HO4:=Hu ((hF4.block bo lbn HNo.out.2.2.2.1).trans HOn.out);have lb5:=lt_of_block HO4.out;have x6:=HA4.out.c 6 (v:=.int .i64 X.cf.idle) rfl;have hil4:i<(bU { X with flows:=X.flows.set i ⟨(s:Int),gn,f2,(b3:Int),true,f5,f6⟩ } b3 false).flows.length:=by simpa [bU] using hil
       have hf4:(bU { X with flows:=X.flows.set i ⟨(s:Int),gn,f2,(b3:Int),true,f5,f6⟩ } b3 false).flows.getD i Fl.zero=⟨(s:Int),gn,f2,(b3:Int),true,f5,f6⟩:=qJ hil _;obtain ⟨_,q1,q2,_,q4,q5⟩:=HA4.out.flow HEv.out hil4 hf4;have c0:w4.cell? ⟨g,i*7,none⟩=some (.int .i64 (s:Int)):=q5 0 (by omega);have c6:w4.cell? ⟨g,i*7+6,none⟩=some (.int .i64 f6):=q5 6 (by omega);have hFl:=Hu (nJ (F:=X.flows.set i ⟨(s:Int),gn,f2,(b3:Int),true,f5,f6⟩) (by simpa using hil) (qJ hil _) 6 (by omega) (.int .i64 (X.now+X.cf.idle)) ⟨(s:Int),gn,f2,(b3:Int),true,f5,X.now+X.cf.idle⟩ rfl);clear q5 G4 hF4;go_wp2_with fail;refine (mp HA4.out.g g (i*7) (s:Int) X.cf.idle ((X.flows.set i ⟨(s:Int),gn,f2,(b3:Int),true,f5,f6⟩).set i ⟨(s:Int),gn,f2,(b3:Int),true,f5,X.now+X.cf.idle⟩) S hpS q1 q2 c0 f6 c6 (q4 _) (fun w' X' V' gG ef ev _ _=>⟨(mW gG (by rw [ev];exact HEv.out) (i*7+6) _ _ (by rw [ef];simp [bU]) (by rw [ef];exact hFl.out)).1,cZ k3 _ _⟩) HX.out.wh HX.out.wn HTm.out).mono ?_;rintro e w5 ⟨V5,rfl,G5,hK5,hF5,_⟩;have HA5:=Hu (HA4.out.same G5 (hF5.wide (fun x hx=>Ip _ hx)));have hob5:=(hF5.block bo lb5 HNo.out.2.2.2.1).trans HO4.out;have HN5:Hid (V5.f.ownBlock≠some bo∧V5.h.ownBlock≠some bo):=⟨by rw [hK5.1];exact HNo.out.1,by rw [hK5.2.1];exact HNo.out.2.1⟩;have u0:w5.cell? ⟨bo,0,none⟩=some (.int .i64 0):=ae hob5 0;have u1:w5.cell? ⟨bo,1,none⟩=some (.int .i64 (s:Int)):=ae hob5 1;have u2:w5.cell? ⟨bo,2,none⟩=some (.int .i64 gn):=ae hob5 2;have u3:w5.cell? ⟨bo,3,none⟩=some (.int .i64 (b3:Int)):=ae hob5 3;have u4:w5.cell? ⟨bo,4,none⟩=some (.int .i64 0):=ae hob5 4;have u5:w5.cell? ⟨bo,5,none⟩=some (.int .i64 0):=ae hob5 5;have u6:w5.cell? ⟨bo,6,none⟩=some (.int .i64 0):=ae hob5 6;have uf:∀ n,w5.frozen? ⟨bo,n,none⟩=false:=fun n=>ap hob5 n;clear G5 hK5 hF5 hob5;go_wp2_with fail;refine eV _ (fun w6 hw6=>?_);have g6:=r8 HA5.out.g bo 0 (.int .i64 4) Im HNo.out.2.2.2.2 HN5.out.1 HN5.out.2 HNo.out.2.2.1;have HA6:=Hu (HA5.out.same g6.1 g6.2);rw [← hw6] at HA6;clear hw6 g6;refine (dn HA6.out.g ⟨4,(s:Int),gn,(b3:Int),0,0,0⟩ (by omega)).mono ?_;rintro e w7 hc7;obtain ⟨S7,V7,vo7,rfl,A7,_,_,_⟩:=HA6.out.call hc7;have HA7:=Hu A7;clear A7 hc7;go_wp2_with fail;refine Ix (v:=.tuple #[]) (by simp [results,Tryz.results35,go_sem]) rfl ?_;rw [HFW.out];unfold fj;simp only;rw [← HC.out,if_neg (by simp),if_neg (by omega),if_neg (by omega),← HI.out,HF.out];simp only [Bool.false_eq_true,if_false,if_true]
       have e:mD (bU (iV X i) (Int.toNat (b3:Int)) false) i={ bU { X with flows:=X.flows.set i ⟨(s:Int),gn,f2,(b3:Int),true,f5,f6⟩ } b3 false with flows:=(X.flows.set i ⟨(s:Int),gn,f2,(b3:Int),true,f5,f6⟩).set i ⟨(s:Int),gn,f2,(b3:Int),true,f5,X.now+X.cf.idle⟩,lists:=jE X.now X.lists (s:Int) X.cf.idle }:=by
        unfold mD iV;rw [HF.out,Id];simp only;rw [hf4]
        rfl
       rw [e];exact HA7.out.fin trivial
      | false=>
       go_wp2_with fail;refine (mn HAo.out.g HX.out i hil 3 (by omega)).mono ?_;rintro e w7 hc7;obtain ⟨S7,V7,vo7,rfl,A7,_,_,_⟩:=HAo.out.call hc7;have HA7:=Hu A7;clear A7 hc7;go_wp2_with fail;refine Ix (v:=.tuple #[]) (by simp [results,Tryz.results35,go_sem]) rfl ?_;rw [HFW.out];unfold fj;simp only;rw [← HC.out,if_neg (by simp),if_neg (by omega),if_neg (by omega),← HI.out,HF.out];simp only [Bool.false_eq_true,if_false];exact HA7.out.fin trivial
  ·have hne:(c != 0)=true:=by simpa using hc0
   have HC0:=Hu hc0;clear hc0;go_wp2_with fail;refine (dn HAz.out.g ⟨10,0,0,0,0,c,0⟩ (by omega)).mono ?_;rintro e w3 hc3;obtain ⟨S3,V3,vo3,rfl,A3,_,_,_⟩:=HAz.out.call hc3;have HA3:=Hu A3;clear A3 hc3;go_wp2_with fail;refine Ix (v:=.tuple #[]) (by simp [results,Tryz.results35,go_sem]) rfl ?_;rw [HFW.out];unfold fj;simp only;rw [← HC.out,if_pos HC0.out];exact HA3.out.fin trivial
end
end Go.Proofs.YtfliffgmeobclaaGreat
