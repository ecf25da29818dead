/- Texts of the row's proof. Conditions: none. -/
import Derived.Test.YtneailjecbfljaaGreatDoorK11
namespace Go.Proofs.YtneailjecbfljaaGreatDoor
set_option maxRecDepth 100000
set_option maxHeartbeats 8000000
section
open Go.RowKit
theorem nz (v:Value) (L:List Ld) (num den flows:Int) (Y:List Int) (code:Int) (w:World) (hv:aI w 3 v (L.map Ld.cells)) (h:mX L num den flows Y code):Calls Tryz.prog 24 #[v,.int .i64 num,.int .i64 den,.int .i64 flows] w (mW w Y code):=by
 rcases h with ⟨h,rfl,rfl⟩|⟨h,h2,rfl,rfl⟩|⟨h,h2,rfl,rfl⟩
 ·exact rx v L num den flows w hv h
 ·exact jN v L num den flows w hv h h2
 ·exact mp v L num den flows w hv h h2
def pw (x:Ld):Bool:=decide (0<x.weight)
theorem pk1 (x:Ld) (w:World):Calls Tryz.prog 139 #[Ld.agg x] w fun e w'=>e=.returned (.bool (pw x))∧Below w.heap.size w w':=by
 obtain ⟨bk,wt,fl⟩:=x;have HV:Hid (decide (0<wt)=pw ⟨bk,wt,fl⟩):=rfl;unfold Ld.agg;go_enter Tryz.func139,Tryz.ntmps139;go_wp2
 all_goals first|(go_ret;exact ⟨rB HV.out,Zb⟩)|exact Zx
theorem pw_any {L:List Ld} (h:∃ x∈L,0<x.weight):L.any pw=true:=by
 obtain ⟨x,hx,h⟩:=h;exact List.any_eq_true.2 ⟨x,hx,by simpa [pw] using h⟩
theorem Fk {L:List Ld} (h:∀ x∈L,¬ 0<x.weight):L.any pw=false:=by
 rw [List.any_eq_false];intro x hx;have:=h x hx;simp [pw];omega
theorem kA (L:List Ld) (num den flows:Int):(cq L num den flows).length=L.length:=by simp [cq]
theorem rU (wv v:Value) (Wk:List Int) (L:List Ld) (num den flows tries b code:Int) (w:World) (hw:aI w 1 wv (nE Wk)) (hv:aI w 3 v (L.map Ld.cells)) (h:zO Wk L num den flows tries b code) :
  Calls Tryz.prog 98 #[wv,v,.int .i64 num,.int .i64 den,.int .i64 flows,.int .i64 tries] w fun e w'=>e=.returned (.tuple #[.int .i64 b,.int .i64 code])∧Below w.heap.size w w':=by
 have RV:=Hp hv
 have RW:=Hp hw
 obtain ⟨a,c,rfl,_,_,_,p⟩:=aK Ld.zero hv
 obtain ⟨a2,c2,rfl,_⟩:=vX hw
 have P:=Hp p
 clear hv hw p
 rcases h with ⟨Y,h,h0,rfl⟩|⟨hm,hf,h3,rfl,rfl⟩|⟨hm,hf,t0,t1,hk,hno,rfl,rfl⟩|⟨hm,hf,t0,t1,hk,hyes,hD⟩
 ·have HA:=Hp h;have hc:code=6∨code=2:=by rcases h with ⟨_,_,h⟩|⟨_,_,_,h⟩|⟨_,_,_,h⟩<;>omega
  clear h h0;rcases hc with rfl|rfl
  all_goals
   go_enter Tryz.func98,Tryz.ntmps98
   go_wp2_with fail
   refine (nz _ L num den flows _ _ _ RV.out HA.out).mono ?_;rintro e w1 ⟨v1,rfl,R1,hb1⟩;obtain ⟨a1,c1,rfl,_⟩:=aq (f:=fun x=>[Value.int .i64 x]) R1.1;have R1':=Hp R1.1;have B1:=Hp hb1;clear R1 hb1
   have B1':=B1.out
   go_wp2
  ·refine It (v:=.tuple #[.int .i64 0,.int .i64 6]) ?_ rfl ?_;(focus (first|(simp [results,Tryz.results98,go_sem];done)|(simp [results,Tryz.results98,go_sem, *];done)));exact ⟨rfl,Zb⟩
  ·refine It (v:=.tuple #[.int .i64 0,.int .i64 2]) ?_ rfl ?_;(focus (first|(simp [results,Tryz.results98,go_sem];done)|(simp [results,Tryz.results98,go_sem, *];done)));exact ⟨rfl,Zb⟩
 ·have HA:Hid (mX L num den flows (cq L num den flows) 0):=Or.inr (Or.inr ⟨hm,hf,rfl,rfl⟩);clear hm hf;rcases h3 with t0|⟨t0,t1⟩|⟨t0,t1,t2⟩
  all_goals
   (try have t2':(12:Int)<(Wk.length:Int):=by omega)
   go_enter Tryz.func98,Tryz.ntmps98
   go_wp2_with fail
   refine (nz _ L num den flows _ _ _ RV.out HA.out).mono ?_;rintro e w1 ⟨v1,rfl,R1,hb1⟩;obtain ⟨a1,c1,rfl,_⟩:=aq (f:=fun x=>[Value.int .i64 x]) R1.1;have R1':=Hp R1.1;have B1:=Hp hb1;clear R1 hb1
   have B1':=B1.out
   go_wp2
   (refine It (v:=.tuple #[.int .i64 0,.int .i64 2]) ?_ rfl ?_;(focus (first|(simp [results,Tryz.results98,go_sem];done)|(simp [results,Tryz.results98,go_sem, *];done)));exact ⟨rfl,Zb⟩)
 ·have HA:Hid (mX L num den flows (cq L num den flows) 0):=Or.inr (Or.inr ⟨hm,hf,rfl,rfl⟩);have HAny:=Hp (Fk hno);have hk':(Wk.length:Int)≤12:=by omega
  have h12:=hm.1;clear hm hf hno;go_enter Tryz.func98,Tryz.ntmps98;go_wp2_with fail;refine (nz _ L num den flows _ _ _ RV.out HA.out).mono ?_;rintro e w1 ⟨v1,rfl,R1,hb1⟩;obtain ⟨a1,c1,rfl,_⟩:=aq (f:=fun x=>[Value.int .i64 x]) R1.1;have R1':=Hp R1.1;have B1:=Hp hb1;clear R1 hb1;go_wp2_with fail;refine (mP 139 #[] (fun _ _=>rfl) pw _ L _ (au RV.out B1.out) (by omega) (fun x _ w' _=>pk1 x w')).mono ?_;rintro e w2 ⟨rfl,hb2⟩;rw [HAny.out];have B2:=Hp (B1.out.trans (hb2.mono B1.out.size));have R2:=Hp (au R1'.out hb2);clear hb2 R1';have B2':=B2.out;go_wp2;refine It (v:=.tuple #[.int .i64 0,.int .i64 11]) ?_ rfl ?_;(focus (first|(simp [results,Tryz.results98,go_sem];done)|(simp [results,Tryz.results98,go_sem, *];done)));exact ⟨rfl,Zb⟩
 ·have HA:Hid (mX L num den flows (cq L num den flows) 0):=Or.inr (Or.inr ⟨hm,hf,rfl,rfl⟩);have HAny:=Hp (pw_any hyes);have hk':(Wk.length:Int)≤12:=by omega
  have h12:=hm.1;have HM:=Hp hm;clear hf hyes hm;rcases hD with ⟨m,hmL,hal,rfl,rfl⟩|⟨hal,m,hmL,hb,rfl,rfl⟩|⟨hal,hb,rfl,rfl⟩
  ·have HAl:=Hp hal;have hm':(m:Int)<(L.length:Int):=by omega
   have p0:(0:Int)≤(m:Int):=by omega
   obtain ⟨b0,o0,rfl,hb0,q⟩:=P.out (by intro h;rw [h] at hmL;simp at hmL);have q0:=q m 0 hmL (by omega);obtain ⟨s,hs⟩:∃ s,s=L.getD m Ld.zero:=⟨_,rfl⟩;rw [← hs] at q0 ⊢;obtain ⟨bk,wt,fl⟩:=s;simp only [Ld.cells,I1,Nat.add_zero] at q0;have Q0:=Hp q0;clear hal q hs q0;go_enter Tryz.func98,Tryz.ntmps98;go_wp2_with fail;refine (nz _ L num den flows _ _ _ RV.out HA.out).mono ?_;rintro e w1 ⟨v1,rfl,R1,hb1⟩;obtain ⟨a1,c1,rfl,_⟩:=aq (f:=fun x=>[Value.int .i64 x]) R1.1;have R1':=Hp R1.1;have B1:=Hp hb1;clear R1 hb1;go_wp2_with fail;refine (mP 139 #[] (fun _ _=>rfl) pw _ L _ (au RV.out B1.out) (by omega) (fun x _ w' _=>pk1 x w')).mono ?_;rintro e w2 ⟨rfl,hb2⟩;rw [HAny.out];have B2:=Hp (B1.out.trans (hb2.mono B1.out.size));have R2:=Hp (au R1'.out hb2);clear hb2 R1';go_wp2_with fail;refine (lR _ _ _ L (cq L num den flows) Wk tries _ (ai (au RV.out B2.out) _) (ai R2.out _) (ai (au RW.out B2.out) _) h12 (kA L num den flows) hk t0 t1).mono ?_;rintro e w3 ⟨rfl,hb3⟩;rw [HAl.out];have B3:=(B2.out.alloc B2.out.size _).trans (hb3.mono (by simp;have:=B2.out.size;omega));have x0:w3.cell? ⟨b0,o0+m*3,none⟩=some (.int .i64 bk):=(B3.cell (p:=⟨b0,o0+m*3,none⟩) hb0).trans Q0.out;clear hb3;exact Q86
  ·have HAl:=Hp hal;have HBe:=Hp hb;have hm':(m:Int)<(L.length:Int):=by omega
   have p0:(0:Int)≤(m:Int):=by omega
   obtain ⟨b0,o0,rfl,hb0,q⟩:=P.out (by intro h;rw [h] at hmL;simp at hmL);have q0:=q m 0 hmL (by omega);obtain ⟨s,hs⟩:∃ s,s=L.getD m Ld.zero:=⟨_,rfl⟩;rw [← hs] at q0 ⊢;obtain ⟨bk,wt,fl⟩:=s;simp only [Ld.cells,I1,Nat.add_zero] at q0;have Q0:=Hp q0;clear hal q hs q0 hb;go_enter Tryz.func98,Tryz.ntmps98;go_wp2_with fail;refine (nz _ L num den flows _ _ _ RV.out HA.out).mono ?_;rintro e w1 ⟨v1,rfl,R1,hb1⟩;obtain ⟨a1,c1,rfl,_⟩:=aq (f:=fun x=>[Value.int .i64 x]) R1.1;have R1':=Hp R1.1;have B1:=Hp hb1;clear R1 hb1;go_wp2_with fail;refine (mP 139 #[] (fun _ _=>rfl) pw _ L _ (au RV.out B1.out) (by omega) (fun x _ w' _=>pk1 x w')).mono ?_;rintro e w2 ⟨rfl,hb2⟩;rw [HAny.out];have B2:=Hp (B1.out.trans (hb2.mono B1.out.size));have R2:=Hp (au R1'.out hb2);clear hb2 R1';go_wp2_with fail;refine (lR _ _ _ L (cq L num den flows) Wk tries _ (ai (au RV.out B2.out) _) (ai R2.out _) (ai (au RW.out B2.out) _) h12 (kA L num den flows) hk t0 t1).mono ?_;rintro e w3 ⟨rfl,hb3⟩;rw [HAl.out];have y0:=aA hb3 (w:=w2.alloc (.cells #[.slice (some ⟨b0,o0,none⟩) L.length c,.slice a1 (cq L num den flows).length c1] 292)) (b:=w2.heap.size) (o:=0) (v:=.slice (some ⟨b0,o0,none⟩) L.length c) (by simp);have y1:=aA hb3 (w:=w2.alloc (.cells #[.slice (some ⟨b0,o0,none⟩) L.length c,.slice a1 (cq L num den flows).length c1] 292)) (b:=w2.heap.size) (o:=1) (v:=.slice a1 (cq L num den flows).length c1) (by simp);have B3:=Hp ((B2.out.alloc B2.out.size _).trans (hb3.mono (by simp;have:=B2.out.size;omega)));have X1:=Hp (au (ai (au RV.out B2.out) _) hb3);have X2:=Hp (au (ai R2.out _) hb3);clear hb3;go_wp2_with fail;refine (pW _ _ L (cq L num den flows) m _ X1.out X2.out HM.out (kA L num den flows) HBe.out).mono ?_;rintro e w4 ⟨rfl,hb4⟩;have B4:=B3.out.trans (hb4.mono B3.out.size);have x0:w4.cell? ⟨b0,o0+m*3,none⟩=some (.int .i64 bk):=(B4.cell (p:=⟨b0,o0+m*3,none⟩) hb0).trans Q0.out;clear hb4;exact Q86
  ·have HAl:=Hp hal;have HBe:=Hp hb;clear hal hb;go_enter Tryz.func98,Tryz.ntmps98;go_wp2_with fail;refine (nz _ L num den flows _ _ _ RV.out HA.out).mono ?_;rintro e w1 ⟨v1,rfl,R1,hb1⟩;obtain ⟨a1,c1,rfl,_⟩:=aq (f:=fun x=>[Value.int .i64 x]) R1.1;have R1':=Hp R1.1;have B1:=Hp hb1;clear R1 hb1;go_wp2_with fail;refine (mP 139 #[] (fun _ _=>rfl) pw _ L _ (au RV.out B1.out) (by omega) (fun x _ w' _=>pk1 x w')).mono ?_;rintro e w2 ⟨rfl,hb2⟩;rw [HAny.out];have B2:=Hp (B1.out.trans (hb2.mono B1.out.size));have R2:=Hp (au R1'.out hb2);clear hb2 R1';go_wp2_with fail;refine (lR _ _ _ L (cq L num den flows) Wk tries _ (ai (au RV.out B2.out) _) (ai R2.out _) (ai (au RW.out B2.out) _) h12 (kA L num den flows) hk t0 t1).mono ?_;rintro e w3 ⟨rfl,hb3⟩;rw [HAl.out];have y0:=aA hb3 (w:=w2.alloc (.cells #[.slice a L.length c,.slice a1 (cq L num den flows).length c1] 292)) (b:=w2.heap.size) (o:=0) (v:=.slice a L.length c) (by simp);have y1:=aA hb3 (w:=w2.alloc (.cells #[.slice a L.length c,.slice a1 (cq L num den flows).length c1] 292)) (b:=w2.heap.size) (o:=1) (v:=.slice a1 (cq L num den flows).length c1) (by simp);have B3:=Hp ((B2.out.alloc B2.out.size _).trans (hb3.mono (by simp;have:=B2.out.size;omega)));have X1:=Hp (au (ai (au RV.out B2.out) _) hb3);have X2:=Hp (au (ai R2.out _) hb3);clear hb3;go_wp2_with fail;refine (pW _ _ L (cq L num den flows) (-1) _ X1.out X2.out HM.out (kA L num den flows) HBe.out).mono ?_;rintro e w4 ⟨rfl,hb4⟩;have B4:=B3.out.trans (hb4.mono B3.out.size);clear hb4;go_wp2;refine It (v:=.tuple #[.int .i64 0,.int .i64 9]) ?_ rfl ?_;(focus (first|(simp [results,Tryz.results98,go_sem];done)|(simp [results,Tryz.results98,go_sem, *];done)));exact ⟨rfl,Zb⟩
theorem Gc {X Y:List Sp} {k:Nat} (hx:k<X.length) (hy:k<Y.length) (h:X.take k=Y.take k) (he:X.getD k Sp.zero=Y.getD k Sp.zero):X.take (k+1)=Y.take (k+1):=by
 have e1:X.getD k Sp.zero=X[k]:=by simp [List.getD,hx]
 have e2:Y.getD k Sp.zero=Y[k]:=by simp [List.getD,hy]
 rw [I6 hx,I6 hy,h,← e1,← e2,he]
theorem eq_not {X Y:List Sp} {k:Nat} (he:X.getD k Sp.zero≠Y.getD k Sp.zero):X≠Y:=fun h=>he (by rw [h])
theorem eq_all {X Y:List Sp} {k:Nat} (hx:X.length=k) (hy:Y.length=k) (h:X.take k=Y.take k):X=Y:=by
 rwa [Ia (by omega),Ia (by omega)] at h
theorem zF (v1 v2:Value) (X Y:List Sp) (w:World) (r1:aI w 2 v1 (X.map Sp.cells)) (r2:aI w 2 v2 (Y.map Sp.cells)) (r:Bool) (hr:(X=Y∧r=true)∨(X≠Y∧r=false)) :
  Calls Tryz.prog 95 #[v1,v2] w fun e w'=>e=.returned (.bool r)∧∃ q,w'=w.drewN q:=by
 obtain ⟨a1,c1,rfl,l1,m1,n1,p1⟩:=aK Sp.zero r1
 obtain ⟨a2,c2,rfl,l2,m2,n2,p2⟩:=aK Sp.zero r2
 have P1:=Hp p1
 have P2:=Hp p2
 have HR:=Hp hr
 unfold maxLen at m1
 clear r1 r2 p1 p2 hr n1 n2
 by_cases hl:X.length=Y.length
 rotate_left
 ·have hr:r=false:=by rcases HR.out with ⟨h,_⟩|⟨_,h⟩;exact absurd (by rw [h]) hl;exact h
  subst hr
  have e1:((X.length:Int) != (Y.length:Int))=true:=by rw [bne_iff_ne];omega
  have e2:¬ (X.length:Int)=(Y.length:Int):=by omega
  clear HR P1 P2;go_enter Tryz.func95,Tryz.ntmps95;go_wp2
  all_goals first|(go_ret;exact ⟨rfl,0,rfl⟩)|exact Zx
 ·go_enter Tryz.func95,Tryz.ntmps95
  have e1:((X.length:Int) != (Y.length:Int))=false:=by rw [bne_eq_false_iff_eq];omega
  have e2:(X.length:Int)=(Y.length:Int):=by omega
  have HL:=Hp hl;clear hl;go_wp2;clear e1 e2;go_loopw [13] (fun i wr=>∃ k:Nat,k≤X.length∧i=.int .i64 k∧X.take k=Y.take k∧∃ q,wr=w.drewN q) (fun i _=>X.length - (intOf i).toNat)
  case atStart=>exact ⟨0,I0 _,rfl,rfl,0,rfl⟩
  case round=>
   obtain ⟨k,hk,rfl,hT,q,rfl⟩:=hrel;rcases (show k<X.length∨X.length=k by omega) with hlt|heq
   ·have hlt':(k:Int)<(X.length:Int):=by omega
    have hlY:k<Y.length:=by have:=HL.out;omega
    have hlY':(k:Int)<(Y.length:Int):=by omega
    have p0:(0:Int)≤(k:Int):=by omega
    obtain ⟨b1,o1,rfl,hb1,q1⟩:=P1.out (by intro h;rw [h] at hlt;simp at hlt);obtain ⟨b2,o2,rfl,hb2,q2⟩:=P2.out (by intro h;rw [h] at hlY;simp at hlY);have a0:=q1 k 0 hlt (by omega);have a1:=q1 k 1 hlt (by omega);have d0:=q2 k 0 hlY (by omega);have d1:=q2 k 1 hlY (by omega);obtain ⟨x,hx⟩:∃ x,x=X.getD k Sp.zero:=⟨_,rfl⟩;obtain ⟨y,hy⟩:∃ y,y=Y.getD k Sp.zero:=⟨_,rfl⟩;rw [← hx] at a0 a1;rw [← hy] at d0 d1;have HX:=Hp hx;have HY:=Hp hy;have HT:=Hp hT;obtain ⟨x0,x1⟩:=x;obtain ⟨y0,y1⟩:=y;simp only [Sp.cells,I1,I2,Nat.add_zero] at a0 a1 d0 d1;have a0:=dh q a0;have a1:=dh q a1;have d0:=dh q d0;have d1:=dh q d1;clear hx hy hT q1 q2;by_cases he:x0=y0∧x1=y1
    ·obtain ⟨rfl,rfl⟩:=he;have HN:=Hp (Gc hlt hlY HT.out (by rw [← HX.out,← HY.out]));go_wp2_with fail;go_quiet (fail);go_wp2;go_roundw
     case rel=>exact ⟨k+1,by omega,by go_num,HN.out,_,rfl⟩
     case measure=>simp [intOf];omega
    ·have hr:r=false:=by
      rcases HR.out with ⟨h,_⟩|⟨_,h⟩
      ·exact absurd h (eq_not (k:=k) (by rw [← HX.out,← HY.out];simpa using he))
      ·exact h
     subst hr;have hc:(x0≠y0)∨(x0=y0∧x1≠y1):=by omega
     clear he;rcases hc with he|⟨rfl,he⟩
     all_goals
      go_wp2_with fail
      go_quiet (fail)
      go_wp2
      all_goals first|(go_ret;exact ⟨rfl,_,World.drewN_drewN _ _ _⟩)|exact Zx
   ·have hge:¬ (k:Int)<(X.length:Int):=by omega
    have hgY:¬ (k:Int)<(Y.length:Int):=by have:=HL.out;omega
    have hr:r=true:=by
     rcases HR.out with ⟨_,h⟩|⟨h,_⟩
     ·exact h
     ·exact absurd (eq_all heq (by have:=HL.out;omega) hT) h
    subst hr;clear heq;go_wp2
    all_goals first|(go_ret;exact ⟨rfl,_,rfl⟩)|exact Zx
theorem j6 (a b c t:Int) (w:World) (h:i7 a b c) (ht:0≤t∧t≤c*b):Calls Tryz.prog 86 #[.agg #[.int .i64 a,.int .i64 b,.int .i64 c],.agg #[.int .i64 t]] w fun e w'=>e=.returned (.int .i64 0)∧Below w.heap.size w w':=by
 have h':=Hp h;obtain ⟨h1,h2,h3,h4,h5,h6⟩:=h;obtain ⟨t1,t2⟩:=ht;obtain ⟨c1,c2⟩:=iY (a:=c) (d:=b) (A:=20) (D:=20) (by omega) (by omega) (by omega) (by omega)
 have hd:decide (t<0)=false:=by simp;omega
 go_enter Tryz.func86,Tryz.ntmps86;go_wp2_with (first|(go_at_call 25;refine (j5 _ _ _ _ h'.out).mono ?_;rintro e w1 ⟨rfl,hb1⟩;obtain ⟨hc1,hf1⟩:=aV hb1;have hz1:=fQ hb1;have hy1:=hb1.size;(try simp at hy1)));go_region_calls
 all_goals go_wp2
 all_goals exact Zf
theorem jL (a b c t:Int) (w:World) (h:i7 a b c) (ht:0≤t∧t≤c*b) (hl:t<b):Calls Tryz.prog 123 #[.agg #[.int .i64 a,.int .i64 b,.int .i64 c],.agg #[.int .i64 t]] w fun e w'=>e=.returned (.tuple #[.agg #[.int .i64 0],.int .i64 11])∧Below w.heap.size w w':=by
 have h':=Hp h;have ht':=Hp ht;clear h ht;go_enter Tryz.func123,Tryz.ntmps123;go_wp2_with (first|(go_at_call 86;refine (j6 _ _ _ _ _ h'.out ht'.out).mono ?_;rintro e w1 ⟨rfl,hb1⟩;obtain ⟨hc1,hf1⟩:=aV hb1;have hz1:=fQ hb1;have hy1:=hb1.size;(try simp at hy1)));refine It (v:=.tuple #[.agg #[.int .i64 0],.int .i64 11]) ?_ rfl ?_;(focus (first|(simp [results,Tryz.results123,go_sem];done)|(simp [results,Tryz.results123,go_sem, *];done)));exact ⟨rfl,Zb⟩
theorem lc (a b c t:Int) (w:World) (h:i7 a b c) (ht:0≤t∧t≤c*b) (hl:b≤t):Calls Tryz.prog 123 #[.agg #[.int .i64 a,.int .i64 b,.int .i64 c],.agg #[.int .i64 t]] w fun e w'=>e=.returned (.tuple #[.agg #[.int .i64 (t - b)],.int .i64 0])∧Below w.heap.size w w':=by
 have h':=Hp h;have ht':=Hp ht;obtain ⟨h1,h2,h3,h4,h5,h6⟩:=h;obtain ⟨c1,c2⟩:=iY (a:=c) (d:=b) (A:=20) (D:=20) (by omega) (by omega) (by omega) (by omega);have ht3:t≤400:=by omega
 clear ht c1 c2;go_enter Tryz.func123,Tryz.ntmps123;go_wp2_with (first|(go_at_call 86;refine (j6 _ _ _ _ _ h'.out ht'.out).mono ?_;rintro e w1 ⟨rfl,hb1⟩;obtain ⟨hc1,hf1⟩:=aV hb1;have hz1:=fQ hb1;have hy1:=hb1.size;(try simp at hy1)));refine It (v:=.tuple #[.agg #[.int .i64 (t - b)],.int .i64 0]) ?_ rfl ?_;(focus (first|(simp [results,Tryz.results123,go_sem];done)|(simp [results,Tryz.results123,go_sem, *];done)));exact ⟨rfl,Zb⟩
theorem jw (a b c t:Int) (w:World) (h:i7 a b c) (ht:0≤t∧t≤c*b):Calls Tryz.prog 44 #[.agg #[.int .i64 a,.int .i64 b,.int .i64 c],.agg #[.int .i64 t]] w fun e w'=>e=.returned (.tuple #[.agg #[.int .i64 (min (t+a) (c*b))],.int .i64 0])∧Below w.heap.size w w':=by
 have h':=Hp h;have ht':=Hp ht;obtain ⟨h1,h2,h3,h4,h5,h6⟩:=h;obtain ⟨c1,c2⟩:=iY (a:=c) (d:=b) (A:=20) (D:=20) (by omega) (by omega) (by omega) (by omega);have ht3:0≤t:=by omega
 have ht4:t≤400:=by omega
 have hwr:IntKind.i64.wrap (t+a)=t+a:=Ir _ (by omega);clear ht;go_enter Tryz.func44,Tryz.ntmps44;go_wp2_with (first|(go_at_call 86;refine (j6 _ _ _ _ _ h'.out ht'.out).mono ?_;rintro e w1 ⟨rfl,hb1⟩;obtain ⟨hc1,hf1⟩:=aV hb1;have hz1:=fQ hb1;have hy1:=hb1.size;(try simp at hy1)));go_region_calls
 all_goals go_wp2
 all_goals
  refine It (v:=.tuple #[.agg #[.int .i64 (min (t+a) (c*b))],.int .i64 0]) ?_ rfl ?_
  ·(simp [results,Tryz.results44,go_sem, *];try omega)
  ·exact ⟨rfl,Zb⟩
def zT (f:FD):Prop:=f.lo≤f.val∧f.val≤f.hi
def nS (x:Ev):Prop:=∀ f∈eE x 0 0 0,zT f
def jI (x:Ev) (code:Int):Prop:=(¬ (1≤x.kind∧x.kind≤7)∧code=5)∨((1≤x.kind∧x.kind≤7)∧¬ nS x∧code=2)∨((1≤x.kind∧x.kind≤7)∧nS x∧fV x≠Ev.zero∧code=3)∨((1≤x.kind∧x.kind≤7)∧nS x∧fV x=Ev.zero∧code=0)
theorem D8 {x:Ev} (h:1≤x.kind∧x.kind≤7):x.kind=1∨x.kind=2∨x.kind=3∨x.kind=4∨x.kind=5∨x.kind=6∨x.kind=7:=by omega
theorem evF_in {x:Ev} (h:1≤x.kind∧x.kind≤7) (be bg:Nat):(∀ f∈eE x be bg 0,zT f)↔nS x:=by
 obtain ⟨kd,ky,sl,gn,gd,rq,bk,wt⟩:=x;rcases D8 h with h|h|h|h|h|h|h<;>simp only at h<;>subst h<;>simp [nS,eE,zT]
theorem Gb (x:Ev) (be bg:Nat) (g:Int):(eE x be bg g).length≤3:=by
 unfold eE
 repeat' split
 all_goals simp
theorem fd_at {x:Ev} (h:1≤x.kind∧x.kind≤7) {be bg:Nat} {g:Int} {w:World} {T:TypeId} {fr:Nat×Nat} (hN:w.heap[be]?=some (.cells x.cells.toArray T fr)) (hG:w.cell? ⟨bg,0,none⟩=some (.int .i64 g)):∀ f∈eE x be bg g,f.a.block<w.heap.size∧w.cell? f.a=some (.int .i64 f.val):=by
 have l1:=lt_of_block hN;have l2:=bR hG;have c:=fun j=>ae hN j;obtain ⟨kd,ky,sl,gn,gd,rq,bk,wt⟩:=x;intro f hf;rcases D8 h with h|h|h|h|h|h|h<;>simp only at h<;>subst h<;>simp [eE] at hf
 ·subst hf;exact ⟨l1,(c 1).trans rfl⟩
 ·exact Q157
 ·exact Q157
 ·rcases hf with rfl|rfl|rfl
  ·exact ⟨l1,(c 2).trans rfl⟩
  ·exact ⟨l1,(c 3).trans rfl⟩
  ·exact ⟨l2,hG⟩
 ·rcases hf with rfl|rfl|rfl
  ·exact ⟨l1,(c 5).trans rfl⟩
  ·exact ⟨l1,(c 6).trans rfl⟩
  ·exact ⟨l1,(c 7).trans rfl⟩
 ·rcases hf with rfl|rfl
  ·exact ⟨l1,(c 5).trans rfl⟩
  ·exact ⟨l1,(c 6).trans rfl⟩
theorem Ga {x:Ev} {be bg:Nat} {g:Int}:∀ f∈eE x be bg g,∃ b o,f.a=⟨b,o,none⟩:=by
 intro f hf;unfold eE at hf
 repeat' split at hf
 all_goals simp at hf
 ·subst hf;exact ⟨_,_,rfl⟩
 ·rcases hf with rfl|rfl<;>exact ⟨_,_,rfl⟩
 ·rcases hf with rfl|rfl|rfl<;>exact ⟨_,_,rfl⟩
 ·rcases hf with rfl|rfl|rfl<;>exact ⟨_,_,rfl⟩
 ·rcases hf with rfl|rfl<;>exact ⟨_,_,rfl⟩
theorem Ao {x:Ev} (h:1≤x.kind∧x.kind≤7) (w:World):Calls Tryz.prog 50 #[x.agg] w fun e w'=>e=.returned (fV x).agg∧Below w.heap.size w w':=by
 obtain ⟨kd,ky,sl,gn,gd,rq,bk,wt⟩:=x;rcases D8 h with h|h|h|h|h|h|h<;>simp only at h<;>subst h
 ·exact rest_1 ky sl gn gd rq bk wt w
 ·exact rest_2 ky sl gn gd rq bk wt w
 ·exact rest_3 ky sl gn gd rq bk wt w
 ·exact rest_4 ky sl gn gd rq bk wt w
 ·exact rest_5 ky sl gn gd rq bk wt w
 ·exact rest_6 ky sl gn gd rq bk wt w
 ·exact rest_7 ky sl gn gd rq bk wt w
theorem Ak (x:Ev):(fV x).kind=0:=by
 unfold fV
 repeat' split
 all_goals rfl
def FD.zero:FD:=⟨⟨0,0,none⟩,0,0,0⟩
theorem Eu {F:List FD} {k:Nat} {f:FD} (hk:k<F.length) (hf:f=F.getD k FD.zero) (hall:∀ f∈F.take k,zT f) (hi:zT f):∀ f∈F.take (k+1),zT f:=by
 rw [I6 hk];intro y hy;rcases List.mem_append.1 hy with hy|hy
 ·exact hall y hy
 ·simp at hy;rw [hy];rw [hf] at hi;simpa [List.getD,hk] using hi
theorem ve (kd ky sl gn:Int) (gd:Bool) (rq bk wt:Int) (code:Int) (w:World) (h:jI ⟨kd,ky,sl,gn,gd,rq,bk,wt⟩ code) :
  Calls Tryz.prog 29 #[.agg #[.int .i64 kd,.int .i64 ky,.int .i64 sl,.int .i64 gn,.bool gd,.int .i64 rq,.int .i64 bk,.int .i64 wt]] w fun e w'=>e=.returned (.int .i64 code)∧Below w.heap.size w w':=by
 have HC:=Hp h
 obtain ⟨ok,hok⟩:∃ ok,ok=decide (1≤kd∧kd≤7):=⟨_,rfl⟩
 have HOK:=Hp hok
 clear h hok
 go_enter Tryz.func29,Tryz.ntmps29
 go_wp2_with fail
 refine (eC ⟨kd,ky,sl,gn,gd,rq,bk,wt⟩ w.heap.size (w.heap.size+1) 0 ok _ (by go_simp) HOK.out).mono ?_
 rintro e w1 ⟨v1,rfl,R1,hb1⟩
 have B1:=Hp ((((Hq w.heap.size w).alloc (Hz _) (.cells #[.int .i64 kd,.int .i64 ky,.int .i64 sl,.int .i64 gn,.bool gd,.int .i64 rq,.int .i64 bk,.int .i64 wt] 60)).alloc (by simp) (.cells #[.int .i64 0] 3)).trans (hb1.mono Zs))
 have x0:=Hp (aj hb1 ((Hu (w:=w.alloc (.cells #[.int .i64 kd,.int .i64 ky,.int .i64 sl,.int .i64 gn,.bool gd,.int .i64 rq,.int .i64 bk,.int .i64 wt] 60)) (.cells #[.int .i64 0] 3) w.heap.size (by simp)).trans (az _ rfl)) Zs)
 have x1:=Hp (aj hb1 (az (w:=w.alloc (.cells #[.int .i64 kd,.int .i64 ky,.int .i64 sl,.int .i64 gn,.bool gd,.int .i64 rq,.int .i64 bk,.int .i64 wt] 60)) (k:=w.heap.size+1) (.cells #[.int .i64 0] 3) (by simp)) Zs)
 have s1:=hb1.size
 simp at s1
 clear hb1
 cases ok with
 | false=>
  have hno:¬ (1≤kd∧kd≤7):=by have:=HOK.out;simpa using this
  obtain rfl:code=5:=by
   rcases HC.out with ⟨_,h⟩|⟨h,_⟩|⟨h,_⟩|⟨h,_⟩
   ·exact h
   all_goals exact absurd h hno
  obtain ⟨a,cap,rfl,_⟩:=aq R1.1;clear R1 hno HC HOK;have B1':=B1.out;go_wp2
  all_goals exact Zf
 | true=>
  have hyes:1≤kd∧kd≤7:=by have:=HOK.out;simpa using this
  have HY:=Hp hyes;have HAt:=Hp (fd_at (x:=⟨kd,ky,sl,gn,gd,rq,bk,wt⟩) (g:=0) hyes x0.out ((ae x1.out 0).trans rfl));have HSp:=Hp (Ga (x:=⟨kd,ky,sl,gn,gd,rq,bk,wt⟩) (be:=w.heap.size) (bg:=w.heap.size+1) (g:=0));have HIn:=Hp (evF_in (x:=⟨kd,ky,sl,gn,gd,rq,bk,wt⟩) hyes w.heap.size (w.heap.size+1));have hlen:=Gb ⟨kd,ky,sl,gn,gd,rq,bk,wt⟩ w.heap.size (w.heap.size+1) 0;generalize eE ⟨kd,ky,sl,gn,gd,rq,bk,wt⟩ w.heap.size (w.heap.size+1) 0=F at R1 HAt HSp HIn hlen;obtain ⟨a,cap,rfl,_,_,_,p⟩:=aK FD.zero R1.1;have P:=Hp p;clear R1 hyes p HOK;go_wp2_with fail;go_loopw [16] (fun i wr=>∃ k:Nat,k≤F.length∧i=.int .i64 k∧Below w1.heap.size w1 wr∧∀ f∈F.take k,zT f) (fun i _=>F.length - (intOf i).toNat)
  case atStart=>exact ⟨0,I0 _,rfl,Hq _ _,fun f hf=>by simp at hf⟩
  case round=>
   obtain ⟨k,hk,rfl,hb,hall⟩:=hrel;have HA:=Hp hall;have HB:=Hp hb;clear hall;rcases (show k<F.length∨F.length=k by omega) with hlt|heq
   ·have hlt':(k:Int)<(F.length:Int):=by omega
    obtain ⟨b0,o0,rfl,hb0,q⟩:=P.out (by intro h;rw [h] at hlt;simp at hlt);obtain ⟨f,hf⟩:∃ f,f=F.getD k FD.zero:=⟨_,rfl⟩
    have hmem:f∈F:=by rw [hf];simp only [List.getD,I7 hlt,Ip];exact Ib _
    have hold:∀ j,j<3→wr.cell? ⟨b0,o0+k*3+j,none⟩=f.cells[j]?:=fun j hj=>by
     rw [hb.cell (p:=⟨b0,o0+k*3+j,none⟩) hb0,hf];exact q k j hlt hj
    have a0:=hold 0 (by omega);have a1:=hold 1 (by omega);have a2:=hold 2 (by omega);obtain ⟨l3,v3⟩:=HAt.out f hmem;obtain ⟨bb,oo,hsp⟩:=HSp.out f hmem;have HF:=Hp hf;have HMem:=Hp hmem;clear hold hf q hmem;obtain ⟨fa,lo,hi,vl⟩:=f;simp only at hsp l3 v3;subst hsp;simp only [FD.cells,I1,I2,Nat.add_zero] at a0 a1 a2;simp only at l3;have a3:wr.cell? ⟨bb,oo,none⟩=some (.int .i64 vl):=(hb.cell (p:=⟨bb,oo,none⟩) l3).trans v3;have lb:b0<wr.heap.size:=bR a0;have l4:bb<wr.heap.size:=bR a3;clear hb v3;rcases (show vl<lo∨(lo≤vl∧hi<vl)∨(lo≤vl∧vl≤hi) by omega) with c1|⟨c1,c2⟩|⟨c1,c2⟩
    ·have hc:code=2:=by
      exact Q72
     have HCd:=Hp hc;have hd:decide (vl<lo)=true:=by simpa using c1
     exact Q99
    ·have hc:code=2:=by
      exact Q72
     have HCd:=Hp hc;have hd:decide (vl<lo)=false:=by simpa using c1
     have hd2:decide (hi<vl)=true:=by simpa using c2
     exact Q99
    ·have HN:=Hp (Eu hlt HF.out HA.out ⟨c1,c2⟩);have hd:decide (vl<lo)=false:=by simpa using c1
     have hd2:decide (hi<vl)=false:=by simpa using c2
     go_wp2_with fail;go_quiet (fail);go_wp2;go_roundw
     case rel=>exact ⟨k+1,by omega,by go_num,aJ (HB.out.alloc HB.out.size _),HN.out⟩
     case measure=>simp [intOf];omega
   ·have hge:¬ (k:Int)<(F.length:Int):=by omega
    have HI:Hid (nS ⟨kd,ky,sl,gn,gd,rq,bk,wt⟩):=HIn.out.1 (fun f hf=>HA.out f (by rw [Ia (by omega)];exact hf));have hN:=aj hb x0.out (by omega);have d0:=ae hN 0;have d1:=ae hN 1;have d2:=ae hN 2;have d3:=ae hN 3;have d4:=ae hN 4;have d5:=ae hN 5;have d6:=ae hN 6;have d7:=ae hN 7;simp at d0 d1 d2 d3 d4 d5 d6 d7
    have m0:w.heap.size<wr.heap.size:=by have:=hb.size;omega
    have HBw:=Hp (B1.out.trans (hb.mono (by omega)));obtain ⟨z,hz⟩:∃ z,z=fV ⟨kd,ky,sl,gn,gd,rq,bk,wt⟩:=⟨_,rfl⟩;have HZ:=Hp hz
    have hzk:z.kind=0:=by rw [hz];exact Ak _
    have HR:=Hp (Ao (x:=⟨kd,ky,sl,gn,gd,rq,bk,wt⟩) HY.out wr);rw [← hz] at HR;clear hb hN hz heq;obtain ⟨z0,z1,z2,z3,z4,z5,z6,z7⟩:=z;simp only at hzk;subst hzk;go_wp2_with fail;refine HR.out.mono ?_;rintro e w2 ⟨rfl,hb2⟩;have B2:=Hp (HBw.out.trans (hb2.mono (by omega)));unfold Ev.agg;clear hb2 HR;by_cases hzz:z1=0∧z2=0∧z3=0∧z4=false∧z5=0∧z6=0∧z7=0
    ·obtain ⟨rfl,rfl,rfl,rfl,rfl,rfl,rfl⟩:=hzz
     have hc:code=0:=by
      rcases HC.out with ⟨h,_⟩|⟨_,h,_⟩|⟨_,_,h,_⟩|⟨_,_,_,h⟩
      ·exact absurd HY.out h
      ·exact absurd HI.out h
      ·exact absurd HZ.out.symm h
      ·exact h
     have HCd:=Hp hc;clear hc;exact Q43
    ·have hc:code=3:=by
      rcases HC.out with ⟨h,_⟩|⟨_,h,_⟩|⟨_,_,_,h⟩|⟨_,_,h,_⟩
      ·exact absurd HY.out h
      ·exact absurd HI.out h
      ·exact h
      ·rw [← HZ.out] at h;simp only [Ev.zero,Ev.mk.injEq] at h;exact absurd h.2 hzz
     have HCd:=Hp hc;clear hc
     have hcs:z1≠0∨(z1=0∧z2≠0)∨(z1=0∧z2=0∧z3≠0)∨(z1=0∧z2=0∧z3=0∧z4=true)∨(z1=0∧z2=0∧z3=0∧z4=false∧z5≠0)∨(z1=0∧z2=0∧z3=0∧z4=false∧z5=0∧z6≠0)∨(z1=0∧z2=0∧z3=0∧z4=false∧z5=0∧z6=0∧z7≠0):=by
      cases z4<;>simp at hzz ⊢<;>omega
     clear hzz;rcases hcs with h|⟨rfl,h⟩|⟨rfl,rfl,h⟩|⟨rfl,rfl,rfl,rfl⟩|⟨rfl,rfl,rfl,rfl,h⟩|⟨rfl,rfl,rfl,rfl,rfl,h⟩|⟨rfl,rfl,rfl,rfl,rfl,rfl,h⟩
     ·have e1:(z1 == 0)=false:=by simpa using h
      clear h;exact Q43
     ·have e1:(z2 == 0)=false:=by simpa using h
      clear h;exact Q43
     ·have e1:(z3 == 0)=false:=by simpa using h
      clear h;exact Q43
     ·exact Q43
     ·have e1:(z5 == 0)=false:=by simpa using h
      clear h;exact Q43
     ·have e1:(z6 == 0)=false:=by simpa using h
      clear h;exact Q43
     ·have e1:(z7 == 0)=false:=by simpa using h
      clear h;exact Q43
end
end Go.Proofs.YtneailjecbfljaaGreatDoor
