/- Texts of the row's proof. Conditions: none. -/
import Derived.Test.YtennppmadmgfoaaGreatDoorK26
import Derived.Test.YtennppmadmgfoaaGreatDoorK30
namespace Go.Proofs.YtennppmadmgfoaaGreatDoor
open Proofs.Tryz
set_option maxRecDepth 100000
set_option maxHeartbeats 8000000
section
open Go.RowKit
theorem Q16 {p:Prop} (h:p:=by
 clear h hr hm hp hn ef er;go_in;go_wp2_with (go_at_call 100;refine (xq _ X.ring _ _ _ _ HSp.out (by omega) HWk.out).mono ?_;rintro e w1 ⟨v1,rfl,R1,hb1⟩;obtain ⟨a1,c1,rfl,_⟩:=ap R1.1;have x18:=ah hb1 x18 hpw;have x1:=ah hb1 x1 hpw;have x2:=ah hb1 x2 hpw;have x3:=ah hb1 x3 hpw;have hz1:=hb1.size;have hp1:p<w1.heap.size:=(by omega));rw [<- en];clear en;have HGp:=KL HG.out;refine Zr (fun w':World=>w'.cell? ⟨p,1,none⟩=some (.int .i64 X.cf.num)/\w'.cell? ⟨p,2,none⟩=some (.int .i64 X.cf.den)/\w'.cell? ⟨p,3,none⟩=some (.int .i64 X.cf.tries)) (fun hHeld=>?_);refine dl 0 ?_;refine Zt 2 ?_;refine eD 4 ?_;refine eD 12 ?_;refine dl 20 ?_;refine Zt 22 ?_;refine Z1 3 (fun K hK=>?_);go_simp;(first|(go_at_call 102;refine (pn (fT HG.out Zb) but HM.out).mono ?_;rintro e w2 ⟨v2,rfl,R2,hb2⟩;obtain ⟨a2,c2,rfl,_⟩:=ap R2.1;have hz2:=hb2.size;(try simp at hz2);(try dsimp only))|(go_at_call 101;refine (tu _ _ _ _ _ _ _ _ _ _ _ (aq R1.1 (KS (KN (KM _ _)) (hb2.mono (by simp)))) R2.1 HPk.out).mono ?_;rintro e w3 ⟨rfl,hb3⟩;(try dsimp only)));(try go_wp2_with fail);refine Zk hK fun hHeld=>?_;clear hK K;refine Z1 23 (fun K hK=>?_);go_simp;(first|(go_at_call 102;refine (pn (fT HG.out Zb) but HM.out).mono ?_;rintro e w2 ⟨v2,rfl,R2,hb2⟩;obtain ⟨a2,c2,rfl,_⟩:=ap R2.1;have hz2:=hb2.size;(try simp at hz2);(try dsimp only))|(go_at_call 101;refine (tu _ _ _ _ _ _ _ _ _ _ _ (aq R1.1 (KS (KN (KM _ _)) (hb2.mono (by simp)))) R2.1 HPk.out).mono ?_;rintro e w3 ⟨rfl,hb3⟩;(try dsimp only)));(try go_wp2_with fail);refine Zk hK fun hHeld=>?_;clear hK K;refine eY 24 ?_;refine Zd ?_;go_wp2_with fail;go_ret2;exact ⟨rfl,((hb1.trans (KS (KN (KM _ _)) (hb2.mono (by simp)) |>.mono hz1)).trans (hb3.mono (by have:=hz2;omega)))⟩):p:=h
theorem jA {X:List Sp} (h:RgMay X):X.length<=384:=by
 have E:=tf (gx X) (Es h.2.1) 12;have z:(bR (gx X)).length=(dm (gx X) 12).length:=(fq _).length_eq;rw [h.2.2,z];omega
def IK (X:Wd) (but:Int):Int:=if 0<=but then (X.flows.length:Int) - 1 else X.flows.length
def vV (X:Wd) (key:Nat) (but:Int) (b code:Int):Prop:=BN (gZ X.ring (CY key)) (fu X but) X.cf.num X.cf.den (IK X but) X.cf.tries b code
theorem rf {p:Nat} {w:World} {X:Wd} {V:Vs} (h:GR p w X V) (key:Nat) (but:Int) (E:key<4294967296) (hr:RgMay X.ring) (hm:vU X but) (hf:X.flows.length<=1000000) (b code:Int) (hp:vV X key but b code) :
  Calls prog 64 #[.pointer (some ⟨p,0,none⟩),.int .i64 (key:Int),.int .i64 but] w fun e w'=>e=.returned (.tuple #[.int .i64 b,.int .i64 code])/\Below w.heap.size w w':=by
 have x18:=h.c 18 (v:=V.f) rfl
 have I:=h.c 21 (v:=V.s) rfl
 have x1:=h.c 1 (v:=.int .i64 X.cf.num) rfl
 have x2:=h.c 2 (v:=.int .i64 X.cf.den) rfl
 have x3:=h.c 3 (v:=.int .i64 X.cf.tries) rfl
 have hpw:=h.2.2.2.1
 obtain ⟨W,Z,ef,_⟩:=ap h.2.1
 obtain ⟨Y,cr,er,_⟩:=ap h.1.sp.1
 rw [ef] at x18
 rw [er] at I
 have HSp:=KL h.1.sp.1
 rw [er] at HSp
 have a0:=jA hr
 have HWk:Hid (BK X.ring (key:Int) (gZ X.ring (CY key)) 0):=Or.inr (Or.inr ⟨key,hr,rfl,E,rfl,rfl⟩)
 have U:=KL hp
 have HM:=KL hm
 have HG:=KL h
 obtain ⟨z,hn⟩:∃ z,z=IK X but:=⟨_,rfl⟩
 have J:=KL hn
 have HPk:Hid (BN (gZ X.ring (CY key)) (fu X but) X.cf.num X.cf.den z X.cf.tries b code):=by rw [hn];exact hp
 by_cases hb:0<=but
 ·have en:z=(X.flows.length:Int) - 1:=by rw [hn];unfold IK;rw [if_pos hb]
  exact Q16
 ·have en:z=(X.flows.length:Int):=by rw [hn];unfold IK;rw [if_neg hb]
  exact Q16
end
end Go.Proofs.YtennppmadmgfoaaGreatDoor
