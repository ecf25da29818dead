/- Texts of the row's proof. Conditions: none. -/
import Derived.Test.YtneailjecbfljaaGreatDoorK28
import Derived.Test.YtneailjecbfljaaGreatDoorK32
namespace Go.Proofs.YtneailjecbfljaaGreatDoor
set_option maxRecDepth 100000
set_option maxHeartbeats 8000000
section
open Go.RowKit
theorem Q17 {p:Prop} (h:p:=by
 clear h hr hm hp hn ef er;go_enter Tryz.func61,Tryz.ntmps61;go_wp2_with (go_at_call 97;refine (vi _ X.ring _ _ _ _ HSp.out (by omega) HWk.out).mono ?_;rintro e w1 ⟨v1,rfl,R1,hb1⟩;obtain ⟨a1,c1,rfl,_⟩:=aq R1.1;have x18:=ah hb1 x18 hpw;have x1:=ah hb1 x1 hpw;have x2:=ah hb1 x2 hpw;have x3:=ah hb1 x3 hpw;have hz1:=hb1.size;have hp1:p<w1.heap.size:=(by omega));rw [← en];clear en;have HGp:=Hp HG.out;refine Zr (fun w':World=>w'.cell? ⟨p,1,none⟩=some (.int .i64 X.cf.num)∧w'.cell? ⟨p,2,none⟩=some (.int .i64 X.cf.den)∧w'.cell? ⟨p,3,none⟩=some (.int .i64 X.cf.tries)) (fun hHeld=>?_);refine df 0 ?_;refine Zt 2 ?_;refine eo 4 ?_;refine eo 12 ?_;refine df 20 ?_;refine Zt 22 ?_;refine Z1 3 (fun K hK=>?_);go_simp;(first|(go_at_call 99;refine (o9 (fM HG.out Zb) but HM.out).mono ?_;rintro e w2 ⟨v2,rfl,R2,hb2⟩;obtain ⟨a2,c2,rfl,_⟩:=aq R2.1;have hz2:=hb2.size;(try simp at hz2);(try dsimp only))|(go_at_call 98;refine (rU _ _ _ _ _ _ _ _ _ _ _ (au R1.1 (Hv (Hr (Hq _ _)) (hb2.mono (by simp)))) R2.1 HPk.out).mono ?_;rintro e w3 ⟨rfl,hb3⟩;(try dsimp only)));(try go_wp2_with fail);refine Zk hK fun hHeld=>?_;clear hK K;refine Z1 23 (fun K hK=>?_);go_simp;(first|(go_at_call 99;refine (o9 (fM HG.out Zb) but HM.out).mono ?_;rintro e w2 ⟨v2,rfl,R2,hb2⟩;obtain ⟨a2,c2,rfl,_⟩:=aq R2.1;have hz2:=hb2.size;(try simp at hz2);(try dsimp only))|(go_at_call 98;refine (rU _ _ _ _ _ _ _ _ _ _ _ (au R1.1 (Hv (Hr (Hq _ _)) (hb2.mono (by simp)))) R2.1 HPk.out).mono ?_;rintro e w3 ⟨rfl,hb3⟩;(try dsimp only)));(try go_wp2_with fail);refine Zk hK fun hHeld=>?_;clear hK K;refine eO 24 ?_;refine Zd ?_;go_wp2_with fail;go_ret2;exact ⟨rfl,((hb1.trans (Hv (Hr (Hq _ _)) (hb2.mono (by simp)) |>.mono hz1)).trans (hb3.mono (by have:=hz2;omega)))⟩):p:=h
theorem jp {X:List Sp} (h:RgMay X):X.length≤384:=by
 have h2:=rN (gh X) (Cp h.2.1) 12;have h3:(bO (gh X)).length=(dg (gh X) 12).length:=(fe _).length_eq;rw [h.2.2,h3];omega
def Fn (X:Wd) (but:Int):Int:=if 0≤but then (X.flows.length:Int) - 1 else X.flows.length
def uw (X:Wd) (key:Nat) (but:Int) (b code:Int):Prop:=zO (gS X.ring (AH key)) (fg X but) X.cf.num X.cf.den (Fn X but) X.cf.tries b code
theorem pX {p:Nat} {w:World} {X:Wd} {V:Vs} (h:GR p w X V) (key:Nat) (but:Int) (hk:key<4294967296) (hr:RgMay X.ring) (hm:uv X but) (hf:X.flows.length≤1000000) (b code:Int) (hp:uw X key but b code) :
  Calls Tryz.prog 61 #[.pointer (some ⟨p,0,none⟩),.int .i64 (key:Int),.int .i64 but] w fun e w'=>e=.returned (.tuple #[.int .i64 b,.int .i64 code])∧Below w.heap.size w w':=by
 have x18:=h.c 18 (v:=V.f) rfl
 have x21:=h.c 21 (v:=V.s) rfl
 have x1:=h.c 1 (v:=.int .i64 X.cf.num) rfl
 have x2:=h.c 2 (v:=.int .i64 X.cf.den) rfl
 have x3:=h.c 3 (v:=.int .i64 X.cf.tries) rfl
 have hpw:=h.2.2.2.1
 obtain ⟨af,cf_,ef,_⟩:=aq h.2.1
 obtain ⟨ar,cr,er,_⟩:=aq h.1.sp.1
 rw [ef] at x18
 rw [er] at x21
 have HSp:=Hp h.1.sp.1
 rw [er] at HSp
 have hlen:=jp hr
 have HWk:Hid (zL X.ring (key:Int) (gS X.ring (AH key)) 0):=Or.inr (Or.inr ⟨key,hr,rfl,hk,rfl,rfl⟩)
 have HP:=Hp hp
 have HM:=Hp hm
 have HG:=Hp h
 obtain ⟨n,hn⟩:∃ n,n=Fn X but:=⟨_,rfl⟩
 have HN:=Hp hn
 have HPk:Hid (zO (gS X.ring (AH key)) (fg X but) X.cf.num X.cf.den n X.cf.tries b code):=by rw [hn];exact hp
 by_cases hb:0≤but
 ·have en:n=(X.flows.length:Int) - 1:=by rw [hn];unfold Fn;rw [if_pos hb]
  exact Q17
 ·have en:n=(X.flows.length:Int):=by rw [hn];unfold Fn;rw [if_neg hb]
  exact Q17
end
end Go.Proofs.YtneailjecbfljaaGreatDoor
