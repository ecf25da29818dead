/- Texts of the row's proof. Conditions: none. -/
import Derived.Test.YtennppmadmgfoaaGreatDoorK10
namespace Go.Proofs.YtennppmadmgfoaaGreatDoor
open Proofs.Tryz
set_option maxRecDepth 100000
set_option maxHeartbeats 8000000
section
open Go.RowKit
theorem oI (v:Value) (L:List Ld) (num den flows:Int) (I:List Int) (code:Int) (w:World) (E:aK w 3 v (L.map Ld.cells)) (h:nX L num den flows I code):Calls prog 30 #[v,.int .i64 num,.int .i64 den,.int .i64 flows] w (nV w I code):=by
 rcases h with ⟨h,rfl,rfl⟩|⟨h,z,rfl,rfl⟩|⟨h,z,rfl,rfl⟩
 ·exact sN v L num den flows w E h
 ·exact jZ v L num den flows w E h z
 ·exact mX v L num den flows w E h z
def pw (x:Ld):Bool:=decide (0<x.weight)
theorem pk1 (x:Ld) (w:World):Calls prog 142 #[Ld.agg x] w fun e w'=>e=.returned (.bool (pw x))/\Below w.heap.size w w':=by
 obtain ⟨I,z,J⟩:=x;have E:Hid (decide (0<z)=pw ⟨I,z,J⟩):=rfl;unfold Ld.agg;go_in;go_wp2
 all_goals first|(go_ret;exact ⟨rB E.out,Zb⟩)|exact Zx
theorem pw_any {L:List Ld} (h:∃ x∈L,0<x.weight):L.any pw=true:=by
 obtain ⟨x,z,h⟩:=h;exact List.any_eq_true.2 ⟨x,z,by simpa [pw] using h⟩
theorem II {L:List Ld} (h:∀ x∈L,¬ 0<x.weight):L.any pw=false:=by
 rw [List.any_eq_false];intro x z;have:=h x z;simp [pw];omega
theorem kR (L:List Ld) (num den flows:Int):(cD L num den flows).length=L.length:=by simp [cD]
theorem tu (wv v:Value) (Wk:List Int) (L:List Ld) (num den flows tries b code:Int) (w:World) (hw:aK w 1 wv (oM Wk)) (hv:aK w 3 v (L.map Ld.cells)) (h:BN Wk L num den flows tries b code) :
  Calls prog 101 #[wv,v,.int .i64 num,.int .i64 den,.int .i64 flows,.int .i64 tries] w fun e w'=>e=.returned (.tuple #[.int .i64 b,.int .i64 code])/\Below w.heap.size w w':=by
 have RV:=KL hv
 have RW:=KL hw
 obtain ⟨a,c,rfl,_,_,_,p⟩:=aO Ld.zero hv
 obtain ⟨a2,c2,rfl,_⟩:=yf hw
 have P:=KL p
 clear hv hw p
 rcases h with ⟨Y,h,h0,rfl⟩|⟨hm,hf,h3,rfl,rfl⟩|⟨hm,hf,t0,t1,hk,hno,rfl,rfl⟩|⟨hm,hf,t0,t1,hk,hyes,hD⟩
 ·have HA:=KL h;have hc:code=6\/code=2:=by rcases h with ⟨_,_,h⟩|⟨_,_,_,h⟩|⟨_,_,_,h⟩<;>omega
  clear h h0;rcases hc with rfl|rfl
  all_goals
   go_in
   go_wp2_with fail
   refine (oI _ L num den flows _ _ _ RV.out HA.out).mono ?_;rintro e w1 ⟨v1,rfl,R1,hb1⟩;obtain ⟨a1,c1,rfl,_⟩:=ap (f:=fun x=>[Value.int .i64 x]) R1.1;have R1':=KL R1.1;have B1:=KL hb1;clear R1 hb1
   have B1':=B1.out
   go_wp2
  ·refine LN (v:=.tuple #[.int .i64 0,.int .i64 6]) ?_ rfl ?_;(focus (first|(simp [results,results101,go_sem];done)|(simp [results,results101,go_sem, *];done)));exact ⟨rfl,Zb⟩
  ·refine LN (v:=.tuple #[.int .i64 0,.int .i64 2]) ?_ rfl ?_;(focus (first|(simp [results,results101,go_sem];done)|(simp [results,results101,go_sem, *];done)));exact ⟨rfl,Zb⟩
 ·have HA:Hid (nX L num den flows (cD L num den flows) 0):=Or.inr (Or.inr ⟨hm,hf,rfl,rfl⟩);clear hm hf;rcases h3 with t0|⟨t0,t1⟩|⟨t0,t1,t2⟩
  all_goals
   (try have t2':(12:Int)<(Wk.length:Int):=by omega)
   go_in
   go_wp2_with fail
   refine (oI _ L num den flows _ _ _ RV.out HA.out).mono ?_;rintro e w1 ⟨v1,rfl,R1,hb1⟩;obtain ⟨a1,c1,rfl,_⟩:=ap (f:=fun x=>[Value.int .i64 x]) R1.1;have R1':=KL R1.1;have B1:=KL hb1;clear R1 hb1
   have B1':=B1.out
   go_wp2
   (refine LN (v:=.tuple #[.int .i64 0,.int .i64 2]) ?_ rfl ?_;(focus (first|(simp [results,results101,go_sem];done)|(simp [results,results101,go_sem, *];done)));exact ⟨rfl,Zb⟩)
 ·have HA:Hid (nX L num den flows (cD L num den flows) 0):=Or.inr (Or.inr ⟨hm,hf,rfl,rfl⟩);have HAny:=KL (II hno);have hk':(Wk.length:Int)<=12:=by omega
  have h12:=hm.1;clear hm hf hno;go_in;go_wp2_with fail;refine (oI _ L num den flows _ _ _ RV.out HA.out).mono ?_;rintro e w1 ⟨v1,rfl,R1,hb1⟩;obtain ⟨a1,c1,rfl,_⟩:=ap (f:=fun x=>[Value.int .i64 x]) R1.1;have R1':=KL R1.1;have B1:=KL hb1;clear R1 hb1;go_wp2_with fail;refine (nO 142 #[] (fun _ _=>rfl) pw _ L _ (aq RV.out B1.out) (by omega) (fun x _ w' _=>pk1 x w')).mono ?_;rintro e w2 ⟨rfl,hb2⟩;rw [HAny.out];have B2:=KL (B1.out.trans (hb2.mono B1.out.size));have R2:=KL (aq R1'.out hb2);clear hb2 R1';have B2':=B2.out;go_wp2;refine LN (v:=.tuple #[.int .i64 0,.int .i64 11]) ?_ rfl ?_;(focus (first|(simp [results,results101,go_sem];done)|(simp [results,results101,go_sem, *];done)));exact ⟨rfl,Zb⟩
 ·have HA:Hid (nX L num den flows (cD L num den flows) 0):=Or.inr (Or.inr ⟨hm,hf,rfl,rfl⟩);have HAny:=KL (pw_any hyes);have hk':(Wk.length:Int)<=12:=by omega
  have h12:=hm.1;have HM:=KL hm;clear hf hyes hm;rcases hD with ⟨m,hmL,hal,rfl,rfl⟩|⟨hal,m,hmL,hb,rfl,rfl⟩|⟨hal,hb,rfl,rfl⟩
  ·have HAl:=KL hal;have hm':(m:Int)<(L.length:Int):=by omega
   have p0:(0:Int)<=(m:Int):=by omega
   obtain ⟨b0,o0,rfl,hb0,q⟩:=P.out (by intro h;rw [h] at hmL;simp at hmL);have q0:=q m 0 hmL (by omega);obtain ⟨s,hs⟩:∃ s,s=L.getD m Ld.zero:=⟨_,rfl⟩;rw [<- hs] at q0 ⊢;obtain ⟨bk,wt,fl⟩:=s;simp only [Ld.cells,Lb,Nat.add_zero] at q0;have Q0:=KL q0;clear hal q hs q0;go_in;go_wp2_with fail;refine (oI _ L num den flows _ _ _ RV.out HA.out).mono ?_;rintro e w1 ⟨v1,rfl,R1,hb1⟩;obtain ⟨a1,c1,rfl,_⟩:=ap (f:=fun x=>[Value.int .i64 x]) R1.1;have R1':=KL R1.1;have B1:=KL hb1;clear R1 hb1;go_wp2_with fail;refine (nO 142 #[] (fun _ _=>rfl) pw _ L _ (aq RV.out B1.out) (by omega) (fun x _ w' _=>pk1 x w')).mono ?_;rintro e w2 ⟨rfl,hb2⟩;rw [HAny.out];have B2:=KL (B1.out.trans (hb2.mono B1.out.size));have R2:=KL (aq R1'.out hb2);clear hb2 R1';go_wp2_with fail;refine (mB _ _ _ L (cD L num den flows) Wk tries _ (ai (aq RV.out B2.out) _) (ai R2.out _) (ai (aq RW.out B2.out) _) h12 (kR L num den flows) hk t0 t1).mono ?_;rintro e w3 ⟨rfl,hb3⟩;rw [HAl.out];have B3:=(B2.out.alloc B2.out.size _).trans (hb3.mono (by simp;have:=B2.out.size;omega));have x0:w3.cell? ⟨b0,o0+m*3,none⟩=some (.int .i64 bk):=(B3.cell (p:=⟨b0,o0+m*3,none⟩) hb0).trans Q0.out;clear hb3;exact Q79
  ·have HAl:=KL hal;have HBe:=KL hb;have hm':(m:Int)<(L.length:Int):=by omega
   have p0:(0:Int)<=(m:Int):=by omega
   obtain ⟨b0,o0,rfl,hb0,q⟩:=P.out (by intro h;rw [h] at hmL;simp at hmL);have q0:=q m 0 hmL (by omega);obtain ⟨s,hs⟩:∃ s,s=L.getD m Ld.zero:=⟨_,rfl⟩;rw [<- hs] at q0 ⊢;obtain ⟨bk,wt,fl⟩:=s;simp only [Ld.cells,Lb,Nat.add_zero] at q0;have Q0:=KL q0;clear hal q hs q0 hb;go_in;go_wp2_with fail;refine (oI _ L num den flows _ _ _ RV.out HA.out).mono ?_;rintro e w1 ⟨v1,rfl,R1,hb1⟩;obtain ⟨a1,c1,rfl,_⟩:=ap (f:=fun x=>[Value.int .i64 x]) R1.1;have R1':=KL R1.1;have B1:=KL hb1;clear R1 hb1;go_wp2_with fail;refine (nO 142 #[] (fun _ _=>rfl) pw _ L _ (aq RV.out B1.out) (by omega) (fun x _ w' _=>pk1 x w')).mono ?_;rintro e w2 ⟨rfl,hb2⟩;rw [HAny.out];have B2:=KL (B1.out.trans (hb2.mono B1.out.size));have R2:=KL (aq R1'.out hb2);clear hb2 R1';go_wp2_with fail;refine (mB _ _ _ L (cD L num den flows) Wk tries _ (ai (aq RV.out B2.out) _) (ai R2.out _) (ai (aq RW.out B2.out) _) h12 (kR L num den flows) hk t0 t1).mono ?_;rintro e w3 ⟨rfl,hb3⟩;rw [HAl.out];have y0:=aC hb3 (w:=w2.alloc (.cells #[.slice (some ⟨b0,o0,none⟩) L.length c,.slice a1 (cD L num den flows).length c1] 300)) (b:=w2.heap.size) (o:=0) (v:=.slice (some ⟨b0,o0,none⟩) L.length c) (by simp);have y1:=aC hb3 (w:=w2.alloc (.cells #[.slice (some ⟨b0,o0,none⟩) L.length c,.slice a1 (cD L num den flows).length c1] 300)) (b:=w2.heap.size) (o:=1) (v:=.slice a1 (cD L num den flows).length c1) (by simp);have B3:=KL ((B2.out.alloc B2.out.size _).trans (hb3.mono (by simp;have:=B2.out.size;omega)));have X1:=KL (aq (ai (aq RV.out B2.out) _) hb3);have X2:=KL (aq (ai R2.out _) hb3);clear hb3;go_wp2_with fail;refine (rb _ _ L (cD L num den flows) m _ X1.out X2.out HM.out (kR L num den flows) HBe.out).mono ?_;rintro e w4 ⟨rfl,hb4⟩;have B4:=B3.out.trans (hb4.mono B3.out.size);have x0:w4.cell? ⟨b0,o0+m*3,none⟩=some (.int .i64 bk):=(B4.cell (p:=⟨b0,o0+m*3,none⟩) hb0).trans Q0.out;clear hb4;exact Q79
  ·have HAl:=KL hal;have HBe:=KL hb;clear hal hb;go_in;go_wp2_with fail;refine (oI _ L num den flows _ _ _ RV.out HA.out).mono ?_;rintro e w1 ⟨v1,rfl,R1,hb1⟩;obtain ⟨a1,c1,rfl,_⟩:=ap (f:=fun x=>[Value.int .i64 x]) R1.1;have R1':=KL R1.1;have B1:=KL hb1;clear R1 hb1;go_wp2_with fail;refine (nO 142 #[] (fun _ _=>rfl) pw _ L _ (aq RV.out B1.out) (by omega) (fun x _ w' _=>pk1 x w')).mono ?_;rintro e w2 ⟨rfl,hb2⟩;rw [HAny.out];have B2:=KL (B1.out.trans (hb2.mono B1.out.size));have R2:=KL (aq R1'.out hb2);clear hb2 R1';go_wp2_with fail;refine (mB _ _ _ L (cD L num den flows) Wk tries _ (ai (aq RV.out B2.out) _) (ai R2.out _) (ai (aq RW.out B2.out) _) h12 (kR L num den flows) hk t0 t1).mono ?_;rintro e w3 ⟨rfl,hb3⟩;rw [HAl.out];have y0:=aC hb3 (w:=w2.alloc (.cells #[.slice a L.length c,.slice a1 (cD L num den flows).length c1] 300)) (b:=w2.heap.size) (o:=0) (v:=.slice a L.length c) (by simp);have y1:=aC hb3 (w:=w2.alloc (.cells #[.slice a L.length c,.slice a1 (cD L num den flows).length c1] 300)) (b:=w2.heap.size) (o:=1) (v:=.slice a1 (cD L num den flows).length c1) (by simp);have B3:=KL ((B2.out.alloc B2.out.size _).trans (hb3.mono (by simp;have:=B2.out.size;omega)));have X1:=KL (aq (ai (aq RV.out B2.out) _) hb3);have X2:=KL (aq (ai R2.out _) hb3);clear hb3;go_wp2_with fail;refine (rb _ _ L (cD L num den flows) (-1) _ X1.out X2.out HM.out (kR L num den flows) HBe.out).mono ?_;rintro e w4 ⟨rfl,hb4⟩;have B4:=B3.out.trans (hb4.mono B3.out.size);clear hb4;go_wp2;refine LN (v:=.tuple #[.int .i64 0,.int .i64 9]) ?_ rfl ?_;(focus (first|(simp [results,results101,go_sem];done)|(simp [results,results101,go_sem, *];done)));exact ⟨rfl,Zb⟩
theorem Jq {X h:List Sp} {k:Nat} (z:k<X.length) (hy:k<h.length) (J:X.take k=h.take k) (K:X.getD k Sp.zero=h.getD k Sp.zero):X.take (k+1)=h.take (k+1):=by
 have E:X.getD k Sp.zero=X[k]:=by simp [List.getD,z]
 have I:h.getD k Sp.zero=h[k]:=by simp [List.getD,hy]
 rw [Li z,Li hy,J,<- E,<- I,K]
theorem eq_not {X Y:List Sp} {k:Nat} (z:X.getD k Sp.zero≠Y.getD k Sp.zero):X≠Y:=fun h=>z (by rw [h])
theorem eq_all {X Y:List Sp} {k:Nat} (z:X.length=k) (hy:Y.length=k) (h:X.take k=Y.take k):X=Y:=by
 rwa [Lo (by omega),Lo (by omega)] at h
theorem Bz (v1 v2:Value) (X z:List Sp) (w:World) (r1:aK w 2 v1 (X.map Sp.cells)) (r2:aK w 2 v2 (z.map Sp.cells)) (r:Bool) (E:(X=z/\r=true)\/(X≠z/\r=false)) :
  Calls prog 98 #[v1,v2] w fun e w'=>e=.returned (.bool r)/\∃ q,w'=w.drewN q:=by
 obtain ⟨I,c1,rfl,l1,m1,n1,p1⟩:=aO Sp.zero r1
 obtain ⟨a2,c2,rfl,l2,m2,n2,p2⟩:=aO Sp.zero r2
 have P1:=KL p1
 have P2:=KL p2
 have W:=KL E
 unfold maxLen at m1
 clear r1 r2 p1 p2 E n1 n2
 by_cases hl:X.length=z.length
 rotate_left
 ·have E:r=false:=by rcases W.out with ⟨h,_⟩|⟨_,h⟩;exact absurd (by rw [h]) hl;exact h
  subst E
  have e1:((X.length:Int) != (z.length:Int))=true:=by rw [bne_iff_ne];omega
  have e2:¬ (X.length:Int)=(z.length:Int):=by omega
  clear W P1 P2;go_in;go_wp2
  all_goals first|(go_ret;exact ⟨rfl,0,rfl⟩)|exact Zx
 ·go_in
  have e1:((X.length:Int) != (z.length:Int))=false:=by rw [bne_eq_false_iff_eq];omega
  have e2:(X.length:Int)=(z.length:Int):=by omega
  have HL:=KL hl;clear hl;go_wp2;clear e1 e2;go_loopw [13] (fun i wr=>∃ k:Nat,k<=X.length/\i=.int .i64 k/\X.take k=z.take k/\∃ q,wr=w.drewN q) (fun i _=>X.length - (intOf i).toNat)
  case atStart=>exact ⟨0,La _,rfl,rfl,0,rfl⟩
  case round=>
   obtain ⟨k,hk,rfl,hT,q,rfl⟩:=hrel;rcases (show k<X.length\/X.length=k by omega) with U|a3
   ·have a9:(k:Int)<(X.length:Int):=by omega
    have K:k<z.length:=by have:=HL.out;omega
    have a8:(k:Int)<(z.length:Int):=by omega
    have p0:(0:Int)<=(k:Int):=by omega
    obtain ⟨b1,o1,rfl,a4,q1⟩:=P1.out (by intro h;rw [h] at U;simp at U);obtain ⟨b2,o2,rfl,a5,q2⟩:=P2.out (by intro h;rw [h] at K;simp at K);have Y:=q1 k 0 U (by omega);have I:=q1 k 1 U (by omega);have Z:=q2 k 0 K (by omega);have d1:=q2 k 1 K (by omega);obtain ⟨x,hx⟩:∃ x,x=X.getD k Sp.zero:=⟨_,rfl⟩;obtain ⟨y,hy⟩:∃ y,y=z.getD k Sp.zero:=⟨_,rfl⟩;rw [<- hx] at Y I;rw [<- hy] at Z d1;have HX:=KL hx;have HY:=KL hy;have HT:=KL hT;obtain ⟨x0,x1⟩:=x;obtain ⟨y0,y1⟩:=y;simp only [Sp.cells,Lb,Lc,Nat.add_zero] at Y I Z d1;have Y:=dn q Y;have I:=dn q I;have Z:=dn q Z;have d1:=dn q d1;clear hx hy hT q1 q2;by_cases J:x0=y0/\x1=y1
    ·obtain ⟨rfl,rfl⟩:=J;have HN:=KL (Jq U K HT.out (by rw [<- HX.out,<- HY.out]));go_wp2_with fail;go_quiet (fail);go_wp2;go_roundw
     case rel=>exact ⟨k+1,by omega,by go_num,HN.out,_,rfl⟩
     case measure=>simp [intOf];omega
    ·have E:r=false:=by
      rcases W.out with ⟨h,_⟩|⟨_,h⟩
      ·exact absurd h (eq_not (k:=k) (by rw [<- HX.out,<- HY.out];simpa using J))
      ·exact h
     subst E;have hc:(x0≠y0)\/(x0=y0/\x1≠y1):=by omega
     clear J;rcases hc with J|⟨rfl,J⟩
     all_goals
      go_wp2_with fail
      go_quiet (fail)
      go_wp2
      all_goals first|(go_ret;exact ⟨rfl,_,World.drewN_drewN _ _ _⟩)|exact Zx
   ·have a7:¬ (k:Int)<(X.length:Int):=by omega
    have a6:¬ (k:Int)<(z.length:Int):=by have:=HL.out;omega
    have E:r=true:=by
     rcases W.out with ⟨_,h⟩|⟨h,_⟩
     ·exact h
     ·exact absurd (eq_all a3 (by have:=HL.out;omega) hT) h
    subst E;clear a3;go_wp2
    all_goals first|(go_ret;exact ⟨rfl,_,rfl⟩)|exact Zx
theorem jg (a b c t:Int) (w:World) (h:io a b c) (I:0<=t/\t<=c*b):Calls prog 89 #[.agg #[.int .i64 a,.int .i64 b,.int .i64 c],.agg #[.int .i64 t]] w fun e w'=>e=.returned (.int .i64 0)/\Below w.heap.size w w':=by
 have E:=KL h;obtain ⟨W,Y,Z,h4,h5,h6⟩:=h;obtain ⟨t1,t2⟩:=I;obtain ⟨K,U⟩:=jb (a:=c) (d:=b) (A:=20) (D:=20) (by omega) (by omega) (by omega) (by omega)
 have hd:decide (t<0)=false:=by simp;omega
 go_in;go_wp2_with (first|(go_at_call 31;refine (jf _ _ _ _ E.out).mono ?_;rintro e w1 ⟨rfl,z⟩;obtain ⟨a0,a1⟩:=aX z;have a2:=fX z;have J:=z.size;(try simp at J)));go_region_calls
 all_goals go_wp2
 all_goals exact Zf
theorem jX (a b c t:Int) (w:World) (h:io a b c) (E:0<=t/\t<=c*b) (Y:t<b):Calls prog 126 #[.agg #[.int .i64 a,.int .i64 b,.int .i64 c],.agg #[.int .i64 t]] w fun e w'=>e=.returned (.tuple #[.agg #[.int .i64 0],.int .i64 11])/\Below w.heap.size w w':=by
 have I:=KL h;have J:=KL E;clear h E;go_in;go_wp2_with (first|(go_at_call 89;refine (jg _ _ _ _ _ I.out J.out).mono ?_;rintro e w1 ⟨rfl,z⟩;obtain ⟨U,W⟩:=aX z;have Z:=fX z;have K:=z.size;(try simp at K)));refine LN (v:=.tuple #[.agg #[.int .i64 0],.int .i64 11]) ?_ rfl ?_;(focus (first|(simp [results,results126,go_sem];done)|(simp [results,results126,go_sem, *];done)));exact ⟨rfl,Zb⟩
theorem lV (a b c t:Int) (w:World) (h:io a b c) (E:0<=t/\t<=c*b) (hl:b<=t):Calls prog 126 #[.agg #[.int .i64 a,.int .i64 b,.int .i64 c],.agg #[.int .i64 t]] w fun e w'=>e=.returned (.tuple #[.agg #[.int .i64 (t - b)],.int .i64 0])/\Below w.heap.size w w':=by
 have K:=KL h;have U:=KL E;obtain ⟨Y,Z,h3,h4,h5,h6⟩:=h;obtain ⟨I,J⟩:=jb (a:=c) (d:=b) (A:=20) (D:=20) (by omega) (by omega) (by omega) (by omega);have a2:t<=400:=by omega
 clear E I J;go_in;go_wp2_with (first|(go_at_call 89;refine (jg _ _ _ _ _ K.out U.out).mono ?_;rintro e w1 ⟨rfl,z⟩;obtain ⟨a0,a1⟩:=aX z;have a3:=fX z;have W:=z.size;(try simp at W)));refine LN (v:=.tuple #[.agg #[.int .i64 (t - b)],.int .i64 0]) ?_ rfl ?_;(focus (first|(simp [results,results126,go_sem];done)|(simp [results,results126,go_sem, *];done)));exact ⟨rfl,Zb⟩
theorem jH (a b c t:Int) (w:World) (h:io a b c) (E:0<=t/\t<=c*b):Calls prog 49 #[.agg #[.int .i64 a,.int .i64 b,.int .i64 c],.agg #[.int .i64 t]] w fun e w'=>e=.returned (.tuple #[.agg #[.int .i64 (min (t+a) (c*b))],.int .i64 0])/\Below w.heap.size w w':=by
 have I:=KL h;have J:=KL E;obtain ⟨Y,Z,h3,h4,h5,h6⟩:=h;obtain ⟨U,W⟩:=jb (a:=c) (d:=b) (A:=20) (D:=20) (by omega) (by omega) (by omega) (by omega);have a2:0<=t:=by omega
 have a3:t<=400:=by omega
 have a4:IntKind.i64.wrap (t+a)=t+a:=LK _ (by omega);clear E;go_in;go_wp2_with (first|(go_at_call 89;refine (jg _ _ _ _ _ I.out J.out).mono ?_;rintro e w1 ⟨rfl,z⟩;obtain ⟨a0,a1⟩:=aX z;have a5:=fX z;have K:=z.size;(try simp at K)));go_region_calls
 all_goals go_wp2
 all_goals
  refine LN (v:=.tuple #[.agg #[.int .i64 (min (t+a) (c*b))],.int .i64 0]) ?_ rfl ?_
  ·(simp [results,results49,go_sem, *];try omega)
  ·exact ⟨rfl,Zb⟩
def gdI (b:Bool):Int:=if b then 1 else 0
def C7 (f:FD):Prop:=f.lo<=f.val/\f.val<=f.hi
def oZ (x:Ev):Prop:=∀ f∈jO x 0 0 0,C7 f
def jU (x:Ev) (code:Int):Prop:=(¬ (1<=x.kind/\x.kind<=7)/\code=5)\/((1<=x.kind/\x.kind<=7)/\¬ oZ x/\code=2)\/((1<=x.kind/\x.kind<=7)/\oZ x/\iN x≠Ev.zero/\code=3)\/((1<=x.kind/\x.kind<=7)/\oZ x/\iN x=Ev.zero/\code=0)
theorem Kl {x:Ev} (h:1<=x.kind/\x.kind<=7):x.kind=1\/x.kind=2\/x.kind=3\/x.kind=4\/x.kind=5\/x.kind=6\/x.kind=7:=by omega
theorem evF_in {x:Ev} (h:1<=x.kind/\x.kind<=7) (be bg:Nat):(∀ f∈jO x be bg 0,C7 f)↔oZ x:=by
 obtain ⟨J,K,W,I,E,U,z,Y⟩:=x;rcases Kl h with h|h|h|h|h|h|h<;>simp only at h<;>subst h<;>simp [oZ,jO,C7]
theorem Jp (x:Ev) (be bg:Nat) (g:Int):(jO x be bg g).length<=3:=by
 unfold jO
 repeat' split
 all_goals simp
theorem fd_at {x:Ev} (h:1<=x.kind/\x.kind<=7) {be bg:Nat} {g:Int} {w:World} {T:TypeId} {fr:Nat×Nat} (E:w.heap[be]?=some (.cells x.cells.toArray T fr)) (z:w.cell? ⟨bg,0,none⟩=some (.int .i64 g)):∀ f∈jO x be bg g,f.a.block<w.heap.size/\w.cell? f.a=some (.int .i64 f.val):=by
 have l1:=lt_of_block E;have J:=bV z;have c:=fun I=>ae E I;obtain ⟨Y,Z,sl,W,U,rq,K,wt⟩:=x;intro f hf;rcases Kl h with h|h|h|h|h|h|h<;>simp only at h<;>subst h<;>simp [jO] at hf
 ·subst hf;exact ⟨l1,(c 1).trans rfl⟩
 ·exact Q144
 ·exact Q144
 ·rcases hf with rfl|rfl|rfl
  ·exact ⟨l1,(c 2).trans rfl⟩
  ·exact ⟨l1,(c 3).trans rfl⟩
  ·exact ⟨J,z⟩
 ·rcases hf with rfl|rfl|rfl
  ·exact ⟨l1,(c 5).trans rfl⟩
  ·exact ⟨l1,(c 6).trans rfl⟩
  ·exact ⟨l1,(c 7).trans rfl⟩
 ·rcases hf with rfl|rfl
  ·exact ⟨l1,(c 5).trans rfl⟩
  ·exact ⟨l1,(c 6).trans rfl⟩
theorem Jo {x:Ev} {be bg:Nat} {g:Int}:∀ f∈jO x be bg g,∃ b o,f.a=⟨b,o,none⟩:=by
 intro f h;unfold jO at h
 repeat' split at h
 all_goals simp at h
 ·subst h;exact ⟨_,_,rfl⟩
 ·rcases h with rfl|rfl<;>exact ⟨_,_,rfl⟩
 ·rcases h with rfl|rfl|rfl<;>exact ⟨_,_,rfl⟩
 ·rcases h with rfl|rfl|rfl<;>exact ⟨_,_,rfl⟩
 ·rcases h with rfl|rfl<;>exact ⟨_,_,rfl⟩
theorem Cp (x:Ev):(iN x).kind=0:=by
 unfold iN
 repeat' split
 all_goals rfl
def FD.zero:FD:=⟨⟨0,0,none⟩,0,0,0⟩
theorem Hy {F:List FD} {k:Nat} {f:FD} (E:k<F.length) (J:f=F.getD k FD.zero) (I:∀ f∈F.take k,C7 f) (z:C7 f):∀ f∈F.take (k+1),C7 f:=by
 rw [Li E];intro K h;rcases List.mem_append.1 h with h|h
 ·exact I K h
 ·simp at h;rw [h];rw [J] at z;simpa [List.getD,E] using z
theorem xp (kd ky sl gn:Int) (gd:Bool) (rq bk wt:Int) (code:Int) (w:World) (h:jU ⟨kd,ky,sl,gn,gd,rq,bk,wt⟩ code) :
  Calls prog 15 #[.agg #[.int .i64 kd,.int .i64 ky,.int .i64 sl,.int .i64 gn,.bool gd,.int .i64 rq,.int .i64 bk,.int .i64 wt]] w fun e w'=>e=.returned (.int .i64 code)/\Below w.heap.size w w':=by
 have HC:=KL h
 obtain ⟨ok,hok⟩:∃ ok,ok=decide (1<=kd/\kd<=7):=⟨_,rfl⟩
 have HOK:=KL hok
 clear h hok
 go_in
 go_wp2_with fail
 refine (po ⟨kd,ky,sl,gn,gd,rq,bk,wt⟩ w.heap.size (w.heap.size+1) 0 ok _ (by go_simp) HOK.out).mono ?_
 rintro e w1 ⟨v1,rfl,R1,hb1⟩
 have B1:=KL ((((KM w.heap.size w).alloc (KY _) (.cells #[.int .i64 kd,.int .i64 ky,.int .i64 sl,.int .i64 gn,.bool gd,.int .i64 rq,.int .i64 bk,.int .i64 wt] 61)).alloc (by simp) (.cells #[.int .i64 0] 3)).trans (hb1.mono Zs))
 have x0:=KL (aj hb1 ((KQ (w:=w.alloc (.cells #[.int .i64 kd,.int .i64 ky,.int .i64 sl,.int .i64 gn,.bool gd,.int .i64 rq,.int .i64 bk,.int .i64 wt] 61)) (.cells #[.int .i64 0] 3) w.heap.size (by simp)).trans (aB _ rfl)) Zs)
 have x1:=KL (aj hb1 (aB (w:=w.alloc (.cells #[.int .i64 kd,.int .i64 ky,.int .i64 sl,.int .i64 gn,.bool gd,.int .i64 rq,.int .i64 bk,.int .i64 wt] 61)) (k:=w.heap.size+1) (.cells #[.int .i64 0] 3) (by simp)) Zs)
 have s1:=hb1.size
 simp at s1
 clear hb1
 cases ok with
 | false=>
  have hno:¬ (1<=kd/\kd<=7):=by have:=HOK.out;simpa using this
  obtain rfl:code=5:=by
   rcases HC.out with ⟨_,h⟩|⟨h,_⟩|⟨h,_⟩|⟨h,_⟩
   ·exact h
   all_goals exact absurd h hno
  obtain ⟨a,cap,rfl,_⟩:=ap R1.1;clear R1 hno HC HOK;have B1':=B1.out;go_wp2
  all_goals exact Zf
 | true=>
  have hyes:1<=kd/\kd<=7:=by have:=HOK.out;simpa using this
  have HY:=KL hyes;have HAt:=KL (fd_at (x:=⟨kd,ky,sl,gn,gd,rq,bk,wt⟩) (g:=0) hyes x0.out ((ae x1.out 0).trans rfl));have HSp:=KL (Jo (x:=⟨kd,ky,sl,gn,gd,rq,bk,wt⟩) (be:=w.heap.size) (bg:=w.heap.size+1) (g:=0));have HIn:=KL (evF_in (x:=⟨kd,ky,sl,gn,gd,rq,bk,wt⟩) hyes w.heap.size (w.heap.size+1));have hlen:=Jp ⟨kd,ky,sl,gn,gd,rq,bk,wt⟩ w.heap.size (w.heap.size+1) 0;generalize jO ⟨kd,ky,sl,gn,gd,rq,bk,wt⟩ w.heap.size (w.heap.size+1) 0=F at R1 HAt HSp HIn hlen;obtain ⟨a,cap,rfl,_,_,_,p⟩:=aO FD.zero R1.1;have P:=KL p;clear R1 hyes p HOK;go_wp2_with fail;go_loopw [16] (fun i wr=>∃ k:Nat,k<=F.length/\i=.int .i64 k/\Below w1.heap.size w1 wr/\∀ f∈F.take k,C7 f) (fun i _=>F.length - (intOf i).toNat)
  case atStart=>exact ⟨0,La _,rfl,KM _ _,fun f hf=>by simp at hf⟩
  case round=>
   obtain ⟨k,hk,rfl,hb,hall⟩:=hrel;have HA:=KL hall;have HB:=KL hb;clear hall;rcases (show k<F.length\/F.length=k by omega) with hlt|heq
   ·have hlt':(k:Int)<(F.length:Int):=by omega
    obtain ⟨b0,o0,rfl,hb0,q⟩:=P.out (by intro h;rw [h] at hlt;simp at hlt);obtain ⟨f,hf⟩:∃ f,f=F.getD k FD.zero:=⟨_,rfl⟩
    have hmem:f∈F:=by rw [hf];simp only [List.getD,Lj hlt,LI];exact Lp _
    have hold:∀ j,j<3->wr.cell? ⟨b0,o0+k*3+j,none⟩=f.cells[j]?:=fun j hj=>by
     rw [hb.cell (p:=⟨b0,o0+k*3+j,none⟩) hb0,hf];exact q k j hlt hj
    have a0:=hold 0 (by omega);have a1:=hold 1 (by omega);have a2:=hold 2 (by omega);obtain ⟨l3,v3⟩:=HAt.out f hmem;obtain ⟨bb,oo,hsp⟩:=HSp.out f hmem;have HF:=KL hf;have HMem:=KL hmem;clear hold hf q hmem;obtain ⟨fa,lo,hi,vl⟩:=f;simp only at hsp l3 v3;subst hsp;simp only [FD.cells,Lb,Lc,Nat.add_zero] at a0 a1 a2;simp only at l3;have a3:wr.cell? ⟨bb,oo,none⟩=some (.int .i64 vl):=(hb.cell (p:=⟨bb,oo,none⟩) l3).trans v3;have lb:b0<wr.heap.size:=bV a0;have l4:bb<wr.heap.size:=bV a3;clear hb v3;rcases (show vl<lo\/(lo<=vl/\hi<vl)\/(lo<=vl/\vl<=hi) by omega) with c1|⟨c1,c2⟩|⟨c1,c2⟩
    ·have hc:code=2:=by
      exact Q57
     have HCd:=KL hc;have hd:decide (vl<lo)=true:=by simpa using c1
     exact Q89
    ·have hc:code=2:=by
      exact Q57
     have HCd:=KL hc;have hd:decide (vl<lo)=false:=by simpa using c1
     have hd2:decide (hi<vl)=true:=by simpa using c2
     exact Q89
    ·have HN:=KL (Hy hlt HF.out HA.out ⟨c1,c2⟩);have hd:decide (vl<lo)=false:=by simpa using c1
     have hd2:decide (hi<vl)=false:=by simpa using c2
     go_wp2_with fail;go_quiet (fail);go_wp2;go_roundw
     case rel=>exact ⟨k+1,by omega,by go_num,aM (HB.out.alloc HB.out.size _),HN.out⟩
     case measure=>simp [intOf];omega
   ·have hge:¬ (k:Int)<(F.length:Int):=by omega
    have HI:Hid (oZ ⟨kd,ky,sl,gn,gd,rq,bk,wt⟩):=HIn.out.1 (fun f hf=>HA.out f (by rw [Lo (by omega)];exact hf));have hN:=aj hb x0.out (by omega);have d0:=ae hN 0;have d1:=ae hN 1;have d2:=ae hN 2;have d3:=ae hN 3;have d4:=ae hN 4;have d5:=ae hN 5;have d6:=ae hN 6;have d7:=ae hN 7;simp at d0 d1 d2 d3 d4 d5 d6 d7
    have m0:w.heap.size<wr.heap.size:=by have:=hb.size;omega
    have HBw:=KL (B1.out.trans (hb.mono (by omega)));obtain ⟨z,hz⟩:∃ z,z=iN ⟨kd,ky,sl,gn,gd,rq,bk,wt⟩:=⟨_,rfl⟩;have HZ:=KL hz
    have hzk:z.kind=0:=by rw [hz];exact Cp _
    have HR:=KL (Cs (x:=⟨kd,ky,sl,gn,gd,rq,bk,wt⟩) HY.out wr);rw [<- hz] at HR;clear hb hN hz heq;obtain ⟨z0,z1,z2,z3,z4,z5,z6,z7⟩:=z;simp only at hzk;subst hzk;go_wp2_with fail;refine HR.out.mono ?_;rintro e w2 ⟨rfl,hb2⟩;have B2:=KL (HBw.out.trans (hb2.mono (by omega)));unfold Ev.agg;clear hb2 HR;by_cases hzz:z1=0/\z2=0/\z3=0/\z4=false/\z5=0/\z6=0/\z7=0
    ·obtain ⟨rfl,rfl,rfl,rfl,rfl,rfl,rfl⟩:=hzz
     have hc:code=0:=by
      rcases HC.out with ⟨h,_⟩|⟨_,h,_⟩|⟨_,_,h,_⟩|⟨_,_,_,h⟩
      ·exact absurd HY.out h
      ·exact absurd HI.out h
      ·exact absurd HZ.out.symm h
      ·exact h
     have HCd:=KL hc;clear hc;exact Q41
    ·have hc:code=3:=by
      rcases HC.out with ⟨h,_⟩|⟨_,h,_⟩|⟨_,_,_,h⟩|⟨_,_,h,_⟩
      ·exact absurd HY.out h
      ·exact absurd HI.out h
      ·exact h
      ·rw [<- HZ.out] at h;simp only [Ev.zero,Ev.mk.injEq] at h;exact absurd h.2 hzz
     have HCd:=KL hc;clear hc
     have hcs:z1≠0\/(z1=0/\z2≠0)\/(z1=0/\z2=0/\z3≠0)\/(z1=0/\z2=0/\z3=0/\z4=true)\/(z1=0/\z2=0/\z3=0/\z4=false/\z5≠0)\/(z1=0/\z2=0/\z3=0/\z4=false/\z5=0/\z6≠0)\/(z1=0/\z2=0/\z3=0/\z4=false/\z5=0/\z6=0/\z7≠0):=by
      cases z4<;>simp at hzz ⊢<;>omega
     clear hzz;rcases hcs with h|⟨rfl,h⟩|⟨rfl,rfl,h⟩|⟨rfl,rfl,rfl,rfl⟩|⟨rfl,rfl,rfl,rfl,h⟩|⟨rfl,rfl,rfl,rfl,rfl,h⟩|⟨rfl,rfl,rfl,rfl,rfl,rfl,h⟩
     ·have e1:(z1 == 0)=false:=by simpa using h
      clear h;exact Q41
     ·have e1:(z2 == 0)=false:=by simpa using h
      clear h;exact Q41
     ·have e1:(z3 == 0)=false:=by simpa using h
      clear h;exact Q41
     ·exact Q41
     ·have e1:(z5 == 0)=false:=by simpa using h
      clear h;exact Q41
     ·have e1:(z6 == 0)=false:=by simpa using h
      clear h;exact Q41
     ·have e1:(z7 == 0)=false:=by simpa using h
      clear h;exact Q41
end
end Go.Proofs.YtennppmadmgfoaaGreatDoor
