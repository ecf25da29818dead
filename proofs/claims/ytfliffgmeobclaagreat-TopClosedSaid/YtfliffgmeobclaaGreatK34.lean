/- Texts of the row's proof. Conditions: none. -/
import Derived.Test.YtfliffgmeobclaaGreatK29
import Derived.Test.YtfliffgmeobclaaGreatK33
namespace Go.Proofs.YtfliffgmeobclaaGreat
set_option maxRecDepth 100000
set_option maxHeartbeats 8000000
section
open Go.RowKit
theorem Q17 {p:Prop} (h:p:=by
 clear h hr hm hp hn ef er;go_enter Tryz.func60,Tryz.ntmps60;go_wp2_with (go_at_call 96;refine (vi _ X.ring _ _ _ _ HSp.out (by omega) HWk.out).mono ?_;rintro e w1 ⟨v1,rfl,R1,hb1⟩;obtain ⟨a1,c1,rfl,_⟩:=aq R1.1;have x18:=ah hb1 x18 hpw;have x1:=ah hb1 x1 hpw;have x2:=ah hb1 x2 hpw;have x3:=ah hb1 x3 hpw;have hz1:=hb1.size;have hp1:p<w1.heap.size:=(by omega));rw [← en];clear en;have HGp:=Hu HG.out;refine Zr (fun w':World=>w'.cell? ⟨p,1,none⟩=some (.int .i64 X.cf.num)∧w'.cell? ⟨p,2,none⟩=some (.int .i64 X.cf.den)∧w'.cell? ⟨p,3,none⟩=some (.int .i64 X.cf.tries)) (fun hHeld=>?_);refine df 0 ?_;refine Zt 2 ?_;refine ep 4 ?_;refine ep 12 ?_;refine df 20 ?_;refine Zt 22 ?_;refine Z1 3 (fun K hK=>?_);go_simp;(first|(go_at_call 98;refine (oe (fM HG.out Zb) but HM.out).mono ?_;rintro e w2 ⟨v2,rfl,R2,hb2⟩;obtain ⟨a2,c2,rfl,_⟩:=aq R2.1;have hz2:=hb2.size;(try simp at hz2);(try dsimp only))|(go_at_call 97;refine (rU _ _ _ _ _ _ _ _ _ _ _ (au R1.1 (I0 (Hx (Hv _ _)) (hb2.mono (by simp)))) R2.1 HPk.out).mono ?_;rintro e w3 ⟨rfl,hb3⟩;(try dsimp only)));(try go_wp2_with fail);refine Zk hK fun hHeld=>?_;clear hK K;refine Z1 23 (fun K hK=>?_);go_simp;(first|(go_at_call 98;refine (oe (fM HG.out Zb) but HM.out).mono ?_;rintro e w2 ⟨v2,rfl,R2,hb2⟩;obtain ⟨a2,c2,rfl,_⟩:=aq R2.1;have hz2:=hb2.size;(try simp at hz2);(try dsimp only))|(go_at_call 97;refine (rU _ _ _ _ _ _ _ _ _ _ _ (au R1.1 (I0 (Hx (Hv _ _)) (hb2.mono (by simp)))) R2.1 HPk.out).mono ?_;rintro e w3 ⟨rfl,hb3⟩;(try dsimp only)));(try go_wp2_with fail);refine Zk hK fun hHeld=>?_;clear hK K;refine eP 24 ?_;refine Zd ?_;go_wp2_with fail;go_ret2;exact ⟨rfl,((hb1.trans (I0 (Hx (Hv _ _)) (hb2.mono (by simp)) |>.mono hz1)).trans (hb3.mono (by have:=hz2;omega)))⟩):p:=h
theorem js {X:List Sp} (h:RgMay X):X.length≤384:=by
 have h2:=rN (gh X) (Cr h.2.1) 12;have h3:(bO (gh X)).length=(dg (gh X) 12).length:=(fe _).length_eq;rw [h.2.2,h3];omega
def Fs (X:Wd) (but:Int):Int:=if 0≤but then (X.flows.length:Int) - 1 else X.flows.length
def ux (X:Wd) (key:Nat) (but:Int) (b code:Int):Prop:=zP (gU X.ring (AJ key)) (fg X but) X.cf.num X.cf.den (Fs X but) X.cf.tries b code
theorem pY {p:Nat} {w:World} {X:Wd} {V:Vs} (h:GR p w X V) (key:Nat) (but:Int) (hk:key<4294967296) (hr:RgMay X.ring) (hm:uw X but) (hf:X.flows.length≤1000000) (b code:Int) (hp:ux X key but b code) :
  Calls Tryz.prog 60 #[.pointer (some ⟨p,0,none⟩),.int .i64 (key:Int),.int .i64 but] w fun e w'=>e=.returned (.tuple #[.int .i64 b,.int .i64 code])∧Below w.heap.size w w':=by
 have x18:=h.c 18 (v:=V.f) rfl
 have x21:=h.c 21 (v:=V.s) rfl
 have x1:=h.c 1 (v:=.int .i64 X.cf.num) rfl
 have x2:=h.c 2 (v:=.int .i64 X.cf.den) rfl
 have x3:=h.c 3 (v:=.int .i64 X.cf.tries) rfl
 have hpw:=h.2.2.2.1
 obtain ⟨af,cf_,ef,_⟩:=aq h.2.1
 obtain ⟨ar,cr,er,_⟩:=aq h.1.sp.1
 rw [ef] at x18
 rw [er] at x21
 have HSp:=Hu h.1.sp.1
 rw [er] at HSp
 have hlen:=js hr
 have HWk:Hid (zM X.ring (key:Int) (gU X.ring (AJ key)) 0):=Or.inr (Or.inr ⟨key,hr,rfl,hk,rfl,rfl⟩)
 have HP:=Hu hp
 have HM:=Hu hm
 have HG:=Hu h
 obtain ⟨n,hn⟩:∃ n,n=Fs X but:=⟨_,rfl⟩
 have HN:=Hu hn
 have HPk:Hid (zP (gU X.ring (AJ key)) (fg X but) X.cf.num X.cf.den n X.cf.tries b code):=by rw [hn];exact hp
 by_cases hb:0≤but
 ·have en:n=(X.flows.length:Int) - 1:=by rw [hn];unfold Fs;rw [if_pos hb]
  exact Q17
 ·have en:n=(X.flows.length:Int):=by rw [hn];unfold Fs;rw [if_neg hb]
  exact Q17
end
end Go.Proofs.YtfliffgmeobclaaGreat
