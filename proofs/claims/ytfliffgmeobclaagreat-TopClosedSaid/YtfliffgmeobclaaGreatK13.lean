/- Texts of the row's proof. Conditions: none. -/
import Derived.Test.YtfliffgmeobclaaGreatK12
namespace Go.Proofs.YtfliffgmeobclaaGreat
set_option maxRecDepth 100000
set_option maxHeartbeats 8000000
section
open Go.RowKit
theorem nC (v:Value) (L:List Ld) (num den flows:Int) (Y:List Int) (code:Int) (w:World) (hv:aI w 3 v (L.map Ld.cells)) (h:mZ L num den flows Y code):Calls Tryz.prog 37 #[v,.int .i64 num,.int .i64 den,.int .i64 flows] w (mY w Y code):=by
 rcases h with ⟨h,rfl,rfl⟩|⟨h,h2,rfl,rfl⟩|⟨h,h2,rfl,rfl⟩
 ·exact rx v L num den flows w hv h
 ·exact jO v L num den flows w hv h h2
 ·exact mq v L num den flows w hv h h2
def pw (x:Ld):Bool:=decide (0<x.weight)
theorem pk1 (x:Ld) (w:World):Calls Tryz.prog 138 #[Ld.agg x] w fun e w'=>e=.returned (.bool (pw x))∧Below w.heap.size w w':=by
 obtain ⟨bk,wt,fl⟩:=x;have HV:Hid (decide (0<wt)=pw ⟨bk,wt,fl⟩):=rfl;unfold Ld.agg;go_enter Tryz.func138,Tryz.ntmps138;go_wp2
 all_goals first|(go_ret;exact ⟨rB HV.out,Zb⟩)|exact Zx
theorem pw_any {L:List Ld} (h:∃ x∈L,0<x.weight):L.any pw=true:=by
 obtain ⟨x,hx,h⟩:=h;exact List.any_eq_true.2 ⟨x,hx,by simpa [pw] using h⟩
theorem Fp {L:List Ld} (h:∀ x∈L,¬ 0<x.weight):L.any pw=false:=by
 rw [List.any_eq_false];intro x hx;have:=h x hx;simp [pw];omega
theorem kB (L:List Ld) (num den flows:Int):(cq L num den flows).length=L.length:=by simp [cq]
theorem rU (wv v:Value) (Wk:List Int) (L:List Ld) (num den flows tries b code:Int) (w:World) (hw:aI w 1 wv (nG Wk)) (hv:aI w 3 v (L.map Ld.cells)) (h:zP Wk L num den flows tries b code) :
  Calls Tryz.prog 97 #[wv,v,.int .i64 num,.int .i64 den,.int .i64 flows,.int .i64 tries] w fun e w'=>e=.returned (.tuple #[.int .i64 b,.int .i64 code])∧Below w.heap.size w w':=by
 have RV:=Hu hv
 have RW:=Hu hw
 obtain ⟨a,c,rfl,_,_,_,p⟩:=aK Ld.zero hv
 obtain ⟨a2,c2,rfl,_⟩:=vX hw
 have P:=Hu p
 clear hv hw p
 rcases h with ⟨Y,h,h0,rfl⟩|⟨hm,hf,h3,rfl,rfl⟩|⟨hm,hf,t0,t1,hk,hno,rfl,rfl⟩|⟨hm,hf,t0,t1,hk,hyes,hD⟩
 ·have HA:=Hu h;have hc:code=6∨code=2:=by rcases h with ⟨_,_,h⟩|⟨_,_,_,h⟩|⟨_,_,_,h⟩<;>omega
  clear h h0;rcases hc with rfl|rfl
  all_goals
   go_enter Tryz.func97,Tryz.ntmps97
   go_wp2_with fail
   refine (nC _ L num den flows _ _ _ RV.out HA.out).mono ?_;rintro e w1 ⟨v1,rfl,R1,hb1⟩;obtain ⟨a1,c1,rfl,_⟩:=aq (f:=fun x=>[Value.int .i64 x]) R1.1;have R1':=Hu R1.1;have B1:=Hu hb1;clear R1 hb1
   have B1':=B1.out
   go_wp2
  ·refine Ix (v:=.tuple #[.int .i64 0,.int .i64 6]) ?_ rfl ?_;(focus (first|(simp [results,Tryz.results97,go_sem];done)|(simp [results,Tryz.results97,go_sem, *];done)));exact ⟨rfl,Zb⟩
  ·refine Ix (v:=.tuple #[.int .i64 0,.int .i64 2]) ?_ rfl ?_;(focus (first|(simp [results,Tryz.results97,go_sem];done)|(simp [results,Tryz.results97,go_sem, *];done)));exact ⟨rfl,Zb⟩
 ·have HA:Hid (mZ L num den flows (cq L num den flows) 0):=Or.inr (Or.inr ⟨hm,hf,rfl,rfl⟩);clear hm hf;rcases h3 with t0|⟨t0,t1⟩|⟨t0,t1,t2⟩
  all_goals
   (try have t2':(12:Int)<(Wk.length:Int):=by omega)
   go_enter Tryz.func97,Tryz.ntmps97
   go_wp2_with fail
   refine (nC _ L num den flows _ _ _ RV.out HA.out).mono ?_;rintro e w1 ⟨v1,rfl,R1,hb1⟩;obtain ⟨a1,c1,rfl,_⟩:=aq (f:=fun x=>[Value.int .i64 x]) R1.1;have R1':=Hu R1.1;have B1:=Hu hb1;clear R1 hb1
   have B1':=B1.out
   go_wp2
   (refine Ix (v:=.tuple #[.int .i64 0,.int .i64 2]) ?_ rfl ?_;(focus (first|(simp [results,Tryz.results97,go_sem];done)|(simp [results,Tryz.results97,go_sem, *];done)));exact ⟨rfl,Zb⟩)
 ·have HA:Hid (mZ L num den flows (cq L num den flows) 0):=Or.inr (Or.inr ⟨hm,hf,rfl,rfl⟩);have HAny:=Hu (Fp hno);have hk':(Wk.length:Int)≤12:=by omega
  have h12:=hm.1;clear hm hf hno;go_enter Tryz.func97,Tryz.ntmps97;go_wp2_with fail;refine (nC _ L num den flows _ _ _ RV.out HA.out).mono ?_;rintro e w1 ⟨v1,rfl,R1,hb1⟩;obtain ⟨a1,c1,rfl,_⟩:=aq (f:=fun x=>[Value.int .i64 x]) R1.1;have R1':=Hu R1.1;have B1:=Hu hb1;clear R1 hb1;go_wp2_with fail;refine (mR 138 #[] (fun _ _=>rfl) pw _ L _ (au RV.out B1.out) (by omega) (fun x _ w' _=>pk1 x w')).mono ?_;rintro e w2 ⟨rfl,hb2⟩;rw [HAny.out];have B2:=Hu (B1.out.trans (hb2.mono B1.out.size));have R2:=Hu (au R1'.out hb2);clear hb2 R1';have B2':=B2.out;go_wp2;refine Ix (v:=.tuple #[.int .i64 0,.int .i64 11]) ?_ rfl ?_;(focus (first|(simp [results,Tryz.results97,go_sem];done)|(simp [results,Tryz.results97,go_sem, *];done)));exact ⟨rfl,Zb⟩
 ·have HA:Hid (mZ L num den flows (cq L num den flows) 0):=Or.inr (Or.inr ⟨hm,hf,rfl,rfl⟩);have HAny:=Hu (pw_any hyes);have hk':(Wk.length:Int)≤12:=by omega
  have h12:=hm.1;have HM:=Hu hm;clear hf hyes hm;rcases hD with ⟨m,hmL,hal,rfl,rfl⟩|⟨hal,m,hmL,hb,rfl,rfl⟩|⟨hal,hb,rfl,rfl⟩
  ·have HAl:=Hu hal;have hm':(m:Int)<(L.length:Int):=by omega
   have p0:(0:Int)≤(m:Int):=by omega
   obtain ⟨b0,o0,rfl,hb0,q⟩:=P.out (by intro h;rw [h] at hmL;simp at hmL);have q0:=q m 0 hmL (by omega);obtain ⟨s,hs⟩:∃ s,s=L.getD m Ld.zero:=⟨_,rfl⟩;rw [← hs] at q0 ⊢;obtain ⟨bk,wt,fl⟩:=s;simp only [Ld.cells,I5,Nat.add_zero] at q0;have Q0:=Hu q0;clear hal q hs q0;go_enter Tryz.func97,Tryz.ntmps97;go_wp2_with fail;refine (nC _ L num den flows _ _ _ RV.out HA.out).mono ?_;rintro e w1 ⟨v1,rfl,R1,hb1⟩;obtain ⟨a1,c1,rfl,_⟩:=aq (f:=fun x=>[Value.int .i64 x]) R1.1;have R1':=Hu R1.1;have B1:=Hu hb1;clear R1 hb1;go_wp2_with fail;refine (mR 138 #[] (fun _ _=>rfl) pw _ L _ (au RV.out B1.out) (by omega) (fun x _ w' _=>pk1 x w')).mono ?_;rintro e w2 ⟨rfl,hb2⟩;rw [HAny.out];have B2:=Hu (B1.out.trans (hb2.mono B1.out.size));have R2:=Hu (au R1'.out hb2);clear hb2 R1';go_wp2_with fail;refine (lR _ _ _ L (cq L num den flows) Wk tries _ (ai (au RV.out B2.out) _) (ai R2.out _) (ai (au RW.out B2.out) _) h12 (kB L num den flows) hk t0 t1).mono ?_;rintro e w3 ⟨rfl,hb3⟩;rw [HAl.out];have B3:=(B2.out.alloc B2.out.size _).trans (hb3.mono (by simp;have:=B2.out.size;omega));have x0:w3.cell? ⟨b0,o0+m*3,none⟩=some (.int .i64 bk):=(B3.cell (p:=⟨b0,o0+m*3,none⟩) hb0).trans Q0.out;clear hb3;exact Q87
  ·have HAl:=Hu hal;have HBe:=Hu hb;have hm':(m:Int)<(L.length:Int):=by omega
   have p0:(0:Int)≤(m:Int):=by omega
   obtain ⟨b0,o0,rfl,hb0,q⟩:=P.out (by intro h;rw [h] at hmL;simp at hmL);have q0:=q m 0 hmL (by omega);obtain ⟨s,hs⟩:∃ s,s=L.getD m Ld.zero:=⟨_,rfl⟩;rw [← hs] at q0 ⊢;obtain ⟨bk,wt,fl⟩:=s;simp only [Ld.cells,I5,Nat.add_zero] at q0;have Q0:=Hu q0;clear hal q hs q0 hb;go_enter Tryz.func97,Tryz.ntmps97;go_wp2_with fail;refine (nC _ L num den flows _ _ _ RV.out HA.out).mono ?_;rintro e w1 ⟨v1,rfl,R1,hb1⟩;obtain ⟨a1,c1,rfl,_⟩:=aq (f:=fun x=>[Value.int .i64 x]) R1.1;have R1':=Hu R1.1;have B1:=Hu hb1;clear R1 hb1;go_wp2_with fail;refine (mR 138 #[] (fun _ _=>rfl) pw _ L _ (au RV.out B1.out) (by omega) (fun x _ w' _=>pk1 x w')).mono ?_;rintro e w2 ⟨rfl,hb2⟩;rw [HAny.out];have B2:=Hu (B1.out.trans (hb2.mono B1.out.size));have R2:=Hu (au R1'.out hb2);clear hb2 R1';go_wp2_with fail;refine (lR _ _ _ L (cq L num den flows) Wk tries _ (ai (au RV.out B2.out) _) (ai R2.out _) (ai (au RW.out B2.out) _) h12 (kB L num den flows) hk t0 t1).mono ?_;rintro e w3 ⟨rfl,hb3⟩;rw [HAl.out];have y0:=aA hb3 (w:=w2.alloc (.cells #[.slice (some ⟨b0,o0,none⟩) L.length c,.slice a1 (cq L num den flows).length c1] 264)) (b:=w2.heap.size) (o:=0) (v:=.slice (some ⟨b0,o0,none⟩) L.length c) (by simp);have y1:=aA hb3 (w:=w2.alloc (.cells #[.slice (some ⟨b0,o0,none⟩) L.length c,.slice a1 (cq L num den flows).length c1] 264)) (b:=w2.heap.size) (o:=1) (v:=.slice a1 (cq L num den flows).length c1) (by simp);have B3:=Hu ((B2.out.alloc B2.out.size _).trans (hb3.mono (by simp;have:=B2.out.size;omega)));have X1:=Hu (au (ai (au RV.out B2.out) _) hb3);have X2:=Hu (au (ai R2.out _) hb3);clear hb3;go_wp2_with fail;refine (pX _ _ L (cq L num den flows) m _ X1.out X2.out HM.out (kB L num den flows) HBe.out).mono ?_;rintro e w4 ⟨rfl,hb4⟩;have B4:=B3.out.trans (hb4.mono B3.out.size);have x0:w4.cell? ⟨b0,o0+m*3,none⟩=some (.int .i64 bk):=(B4.cell (p:=⟨b0,o0+m*3,none⟩) hb0).trans Q0.out;clear hb4;exact Q87
  ·have HAl:=Hu hal;have HBe:=Hu hb;clear hal hb;go_enter Tryz.func97,Tryz.ntmps97;go_wp2_with fail;refine (nC _ L num den flows _ _ _ RV.out HA.out).mono ?_;rintro e w1 ⟨v1,rfl,R1,hb1⟩;obtain ⟨a1,c1,rfl,_⟩:=aq (f:=fun x=>[Value.int .i64 x]) R1.1;have R1':=Hu R1.1;have B1:=Hu hb1;clear R1 hb1;go_wp2_with fail;refine (mR 138 #[] (fun _ _=>rfl) pw _ L _ (au RV.out B1.out) (by omega) (fun x _ w' _=>pk1 x w')).mono ?_;rintro e w2 ⟨rfl,hb2⟩;rw [HAny.out];have B2:=Hu (B1.out.trans (hb2.mono B1.out.size));have R2:=Hu (au R1'.out hb2);clear hb2 R1';go_wp2_with fail;refine (lR _ _ _ L (cq L num den flows) Wk tries _ (ai (au RV.out B2.out) _) (ai R2.out _) (ai (au RW.out B2.out) _) h12 (kB L num den flows) hk t0 t1).mono ?_;rintro e w3 ⟨rfl,hb3⟩;rw [HAl.out];have y0:=aA hb3 (w:=w2.alloc (.cells #[.slice a L.length c,.slice a1 (cq L num den flows).length c1] 264)) (b:=w2.heap.size) (o:=0) (v:=.slice a L.length c) (by simp);have y1:=aA hb3 (w:=w2.alloc (.cells #[.slice a L.length c,.slice a1 (cq L num den flows).length c1] 264)) (b:=w2.heap.size) (o:=1) (v:=.slice a1 (cq L num den flows).length c1) (by simp);have B3:=Hu ((B2.out.alloc B2.out.size _).trans (hb3.mono (by simp;have:=B2.out.size;omega)));have X1:=Hu (au (ai (au RV.out B2.out) _) hb3);have X2:=Hu (au (ai R2.out _) hb3);clear hb3;go_wp2_with fail;refine (pX _ _ L (cq L num den flows) (-1) _ X1.out X2.out HM.out (kB L num den flows) HBe.out).mono ?_;rintro e w4 ⟨rfl,hb4⟩;have B4:=B3.out.trans (hb4.mono B3.out.size);clear hb4;go_wp2;refine Ix (v:=.tuple #[.int .i64 0,.int .i64 9]) ?_ rfl ?_;(focus (first|(simp [results,Tryz.results97,go_sem];done)|(simp [results,Tryz.results97,go_sem, *];done)));exact ⟨rfl,Zb⟩
theorem Gg {X Y:List Sp} {k:Nat} (hx:k<X.length) (hy:k<Y.length) (h:X.take k=Y.take k) (he:X.getD k Sp.zero=Y.getD k Sp.zero):X.take (k+1)=Y.take (k+1):=by
 have e1:X.getD k Sp.zero=X[k]:=by simp [List.getD,hx]
 have e2:Y.getD k Sp.zero=Y[k]:=by simp [List.getD,hy]
 rw [Ia hx,Ia hy,h,← e1,← e2,he]
theorem eq_not {X Y:List Sp} {k:Nat} (he:X.getD k Sp.zero≠Y.getD k Sp.zero):X≠Y:=fun h=>he (by rw [h])
theorem eq_all {X Y:List Sp} {k:Nat} (hx:X.length=k) (hy:Y.length=k) (h:X.take k=Y.take k):X=Y:=by
 rwa [Ie (by omega),Ie (by omega)] at h
theorem zG (v1 v2:Value) (X Y:List Sp) (w:World) (r1:aI w 2 v1 (X.map Sp.cells)) (r2:aI w 2 v2 (Y.map Sp.cells)) (r:Bool) (hr:(X=Y∧r=true)∨(X≠Y∧r=false)) :
  Calls Tryz.prog 94 #[v1,v2] w fun e w'=>e=.returned (.bool r)∧∃ q,w'=w.drewN q:=by
 obtain ⟨a1,c1,rfl,l1,m1,n1,p1⟩:=aK Sp.zero r1
 obtain ⟨a2,c2,rfl,l2,m2,n2,p2⟩:=aK Sp.zero r2
 have P1:=Hu p1
 have P2:=Hu p2
 have HR:=Hu hr
 unfold maxLen at m1
 clear r1 r2 p1 p2 hr n1 n2
 by_cases hl:X.length=Y.length
 rotate_left
 ·have hr:r=false:=by rcases HR.out with ⟨h,_⟩|⟨_,h⟩;exact absurd (by rw [h]) hl;exact h
  subst hr
  have e1:((X.length:Int) != (Y.length:Int))=true:=by rw [bne_iff_ne];omega
  have e2:¬ (X.length:Int)=(Y.length:Int):=by omega
  clear HR P1 P2;go_enter Tryz.func94,Tryz.ntmps94;go_wp2
  all_goals first|(go_ret;exact ⟨rfl,0,rfl⟩)|exact Zx
 ·go_enter Tryz.func94,Tryz.ntmps94
  have e1:((X.length:Int) != (Y.length:Int))=false:=by rw [bne_eq_false_iff_eq];omega
  have e2:(X.length:Int)=(Y.length:Int):=by omega
  have HL:=Hu hl;clear hl;go_wp2;clear e1 e2;go_loopw [13] (fun i wr=>∃ k:Nat,k≤X.length∧i=.int .i64 k∧X.take k=Y.take k∧∃ q,wr=w.drewN q) (fun i _=>X.length - (intOf i).toNat)
  case atStart=>exact ⟨0,I4 _,rfl,rfl,0,rfl⟩
  case round=>
   obtain ⟨k,hk,rfl,hT,q,rfl⟩:=hrel;rcases (show k<X.length∨X.length=k by omega) with hlt|heq
   ·have hlt':(k:Int)<(X.length:Int):=by omega
    have hlY:k<Y.length:=by have:=HL.out;omega
    have hlY':(k:Int)<(Y.length:Int):=by omega
    have p0:(0:Int)≤(k:Int):=by omega
    obtain ⟨b1,o1,rfl,hb1,q1⟩:=P1.out (by intro h;rw [h] at hlt;simp at hlt);obtain ⟨b2,o2,rfl,hb2,q2⟩:=P2.out (by intro h;rw [h] at hlY;simp at hlY);have a0:=q1 k 0 hlt (by omega);have a1:=q1 k 1 hlt (by omega);have d0:=q2 k 0 hlY (by omega);have d1:=q2 k 1 hlY (by omega);obtain ⟨x,hx⟩:∃ x,x=X.getD k Sp.zero:=⟨_,rfl⟩;obtain ⟨y,hy⟩:∃ y,y=Y.getD k Sp.zero:=⟨_,rfl⟩;rw [← hx] at a0 a1;rw [← hy] at d0 d1;have HX:=Hu hx;have HY:=Hu hy;have HT:=Hu hT;obtain ⟨x0,x1⟩:=x;obtain ⟨y0,y1⟩:=y;simp only [Sp.cells,I5,I6,Nat.add_zero] at a0 a1 d0 d1;have a0:=dh q a0;have a1:=dh q a1;have d0:=dh q d0;have d1:=dh q d1;clear hx hy hT q1 q2;by_cases he:x0=y0∧x1=y1
    ·obtain ⟨rfl,rfl⟩:=he;have HN:=Hu (Gg hlt hlY HT.out (by rw [← HX.out,← HY.out]));go_wp2_with fail;go_quiet (fail);go_wp2;go_roundw
     case rel=>exact ⟨k+1,by omega,by go_num,HN.out,_,rfl⟩
     case measure=>simp [intOf];omega
    ·have hr:r=false:=by
      rcases HR.out with ⟨h,_⟩|⟨_,h⟩
      ·exact absurd h (eq_not (k:=k) (by rw [← HX.out,← HY.out];simpa using he))
      ·exact h
     subst hr;have hc:(x0≠y0)∨(x0=y0∧x1≠y1):=by omega
     clear he;rcases hc with he|⟨rfl,he⟩
     all_goals
      go_wp2_with fail
      go_quiet (fail)
      go_wp2
      all_goals first|(go_ret;exact ⟨rfl,_,World.drewN_drewN _ _ _⟩)|exact Zx
   ·have hge:¬ (k:Int)<(X.length:Int):=by omega
    have hgY:¬ (k:Int)<(Y.length:Int):=by have:=HL.out;omega
    have hr:r=true:=by
     rcases HR.out with ⟨_,h⟩|⟨h,_⟩
     ·exact h
     ·exact absurd (eq_all heq (by have:=HL.out;omega) hT) h
    subst hr;clear heq;go_wp2
    all_goals first|(go_ret;exact ⟨rfl,_,rfl⟩)|exact Zx
theorem j9 (a b c t:Int) (w:World) (h:i8 a b c) (ht:0≤t∧t≤c*b):Calls Tryz.prog 85 #[.agg #[.int .i64 a,.int .i64 b,.int .i64 c],.agg #[.int .i64 t]] w fun e w'=>e=.returned (.int .i64 0)∧Below w.heap.size w w':=by
 have h':=Hu h;obtain ⟨h1,h2,h3,h4,h5,h6⟩:=h;obtain ⟨t1,t2⟩:=ht;obtain ⟨c1,c2⟩:=j3 (a:=c) (d:=b) (A:=20) (D:=20) (by omega) (by omega) (by omega) (by omega)
 have hd:decide (t<0)=false:=by simp;omega
 go_enter Tryz.func85,Tryz.ntmps85;go_wp2_with (first|(go_at_call 38;refine (j8 _ _ _ _ h'.out).mono ?_;rintro e w1 ⟨rfl,hb1⟩;obtain ⟨hc1,hf1⟩:=aV hb1;have hz1:=fQ hb1;have hy1:=hb1.size;(try simp at hy1)));go_region_calls
 all_goals go_wp2
 all_goals exact Zf
theorem jM (a b c t:Int) (w:World) (h:i8 a b c) (ht:0≤t∧t≤c*b) (hl:t<b):Calls Tryz.prog 122 #[.agg #[.int .i64 a,.int .i64 b,.int .i64 c],.agg #[.int .i64 t]] w fun e w'=>e=.returned (.tuple #[.agg #[.int .i64 0],.int .i64 11])∧Below w.heap.size w w':=by
 have h':=Hu h;have ht':=Hu ht;clear h ht;go_enter Tryz.func122,Tryz.ntmps122;go_wp2_with (first|(go_at_call 85;refine (j9 _ _ _ _ _ h'.out ht'.out).mono ?_;rintro e w1 ⟨rfl,hb1⟩;obtain ⟨hc1,hf1⟩:=aV hb1;have hz1:=fQ hb1;have hy1:=hb1.size;(try simp at hy1)));refine Ix (v:=.tuple #[.agg #[.int .i64 0],.int .i64 11]) ?_ rfl ?_;(focus (first|(simp [results,Tryz.results122,go_sem];done)|(simp [results,Tryz.results122,go_sem, *];done)));exact ⟨rfl,Zb⟩
theorem lc (a b c t:Int) (w:World) (h:i8 a b c) (ht:0≤t∧t≤c*b) (hl:b≤t):Calls Tryz.prog 122 #[.agg #[.int .i64 a,.int .i64 b,.int .i64 c],.agg #[.int .i64 t]] w fun e w'=>e=.returned (.tuple #[.agg #[.int .i64 (t - b)],.int .i64 0])∧Below w.heap.size w w':=by
 have h':=Hu h;have ht':=Hu ht;obtain ⟨h1,h2,h3,h4,h5,h6⟩:=h;obtain ⟨c1,c2⟩:=j3 (a:=c) (d:=b) (A:=20) (D:=20) (by omega) (by omega) (by omega) (by omega);have ht3:t≤400:=by omega
 clear ht c1 c2;go_enter Tryz.func122,Tryz.ntmps122;go_wp2_with (first|(go_at_call 85;refine (j9 _ _ _ _ _ h'.out ht'.out).mono ?_;rintro e w1 ⟨rfl,hb1⟩;obtain ⟨hc1,hf1⟩:=aV hb1;have hz1:=fQ hb1;have hy1:=hb1.size;(try simp at hy1)));refine Ix (v:=.tuple #[.agg #[.int .i64 (t - b)],.int .i64 0]) ?_ rfl ?_;(focus (first|(simp [results,Tryz.results122,go_sem];done)|(simp [results,Tryz.results122,go_sem, *];done)));exact ⟨rfl,Zb⟩
theorem jy (a b c t:Int) (w:World) (h:i8 a b c) (ht:0≤t∧t≤c*b):Calls Tryz.prog 43 #[.agg #[.int .i64 a,.int .i64 b,.int .i64 c],.agg #[.int .i64 t]] w fun e w'=>e=.returned (.tuple #[.agg #[.int .i64 (min (t+a) (c*b))],.int .i64 0])∧Below w.heap.size w w':=by
 have h':=Hu h;have ht':=Hu ht;obtain ⟨h1,h2,h3,h4,h5,h6⟩:=h;obtain ⟨c1,c2⟩:=j3 (a:=c) (d:=b) (A:=20) (D:=20) (by omega) (by omega) (by omega) (by omega);have ht3:0≤t:=by omega
 have ht4:t≤400:=by omega
 have hwr:IntKind.i64.wrap (t+a)=t+a:=Iw _ (by omega);clear ht;go_enter Tryz.func43,Tryz.ntmps43;go_wp2_with (first|(go_at_call 85;refine (j9 _ _ _ _ _ h'.out ht'.out).mono ?_;rintro e w1 ⟨rfl,hb1⟩;obtain ⟨hc1,hf1⟩:=aV hb1;have hz1:=fQ hb1;have hy1:=hb1.size;(try simp at hy1)));go_region_calls
 all_goals go_wp2
 all_goals
  refine Ix (v:=.tuple #[.agg #[.int .i64 (min (t+a) (c*b))],.int .i64 0]) ?_ rfl ?_
  ·(simp [results,Tryz.results43,go_sem, *];try omega)
  ·exact ⟨rfl,Zb⟩
def zU (f:FD):Prop:=f.lo≤f.val∧f.val≤f.hi
def nU (x:Ev):Prop:=∀ f∈eG x 0 0 0,zU f
def jJ (x:Ev) (code:Int):Prop:=(¬ (1≤x.kind∧x.kind≤7)∧code=5)∨((1≤x.kind∧x.kind≤7)∧¬ nU x∧code=2)∨((1≤x.kind∧x.kind≤7)∧nU x∧fV x≠Ev.zero∧code=3)∨((1≤x.kind∧x.kind≤7)∧nU x∧fV x=Ev.zero∧code=0)
theorem Da {x:Ev} (h:1≤x.kind∧x.kind≤7):x.kind=1∨x.kind=2∨x.kind=3∨x.kind=4∨x.kind=5∨x.kind=6∨x.kind=7:=by omega
theorem evF_in {x:Ev} (h:1≤x.kind∧x.kind≤7) (be bg:Nat):(∀ f∈eG x be bg 0,zU f)↔nU x:=by
 obtain ⟨kd,ky,sl,gn,gd,rq,bk,wt⟩:=x;rcases Da h with h|h|h|h|h|h|h<;>simp only at h<;>subst h<;>simp [nU,eG,zU]
theorem Gf (x:Ev) (be bg:Nat) (g:Int):(eG x be bg g).length≤3:=by
 unfold eG
 repeat' split
 all_goals simp
theorem fd_at {x:Ev} (h:1≤x.kind∧x.kind≤7) {be bg:Nat} {g:Int} {w:World} {T:TypeId} {fr:Nat×Nat} (hN:w.heap[be]?=some (.cells x.cells.toArray T fr)) (hG:w.cell? ⟨bg,0,none⟩=some (.int .i64 g)):∀ f∈eG x be bg g,f.a.block<w.heap.size∧w.cell? f.a=some (.int .i64 f.val):=by
 have l1:=lt_of_block hN;have l2:=bR hG;have c:=fun j=>ae hN j;obtain ⟨kd,ky,sl,gn,gd,rq,bk,wt⟩:=x;intro f hf;rcases Da h with h|h|h|h|h|h|h<;>simp only at h<;>subst h<;>simp [eG] at hf
 ·subst hf;exact ⟨l1,(c 1).trans rfl⟩
 ·exact Q157
 ·exact Q157
 ·rcases hf with rfl|rfl|rfl
  ·exact ⟨l1,(c 2).trans rfl⟩
  ·exact ⟨l1,(c 3).trans rfl⟩
  ·exact ⟨l2,hG⟩
 ·rcases hf with rfl|rfl|rfl
  ·exact ⟨l1,(c 5).trans rfl⟩
  ·exact ⟨l1,(c 6).trans rfl⟩
  ·exact ⟨l1,(c 7).trans rfl⟩
 ·rcases hf with rfl|rfl
  ·exact ⟨l1,(c 5).trans rfl⟩
  ·exact ⟨l1,(c 6).trans rfl⟩
theorem Ge {x:Ev} {be bg:Nat} {g:Int}:∀ f∈eG x be bg g,∃ b o,f.a=⟨b,o,none⟩:=by
 intro f hf;unfold eG at hf
 repeat' split at hf
 all_goals simp at hf
 ·subst hf;exact ⟨_,_,rfl⟩
 ·rcases hf with rfl|rfl<;>exact ⟨_,_,rfl⟩
 ·rcases hf with rfl|rfl|rfl<;>exact ⟨_,_,rfl⟩
 ·rcases hf with rfl|rfl|rfl<;>exact ⟨_,_,rfl⟩
 ·rcases hf with rfl|rfl<;>exact ⟨_,_,rfl⟩
theorem Aq {x:Ev} (h:1≤x.kind∧x.kind≤7) (w:World):Calls Tryz.prog 49 #[x.agg] w fun e w'=>e=.returned (fV x).agg∧Below w.heap.size w w':=by
 obtain ⟨kd,ky,sl,gn,gd,rq,bk,wt⟩:=x;rcases Da h with h|h|h|h|h|h|h<;>simp only at h<;>subst h
 ·exact rest_1 ky sl gn gd rq bk wt w
 ·exact rest_2 ky sl gn gd rq bk wt w
 ·exact rest_3 ky sl gn gd rq bk wt w
 ·exact rest_4 ky sl gn gd rq bk wt w
 ·exact rest_5 ky sl gn gd rq bk wt w
 ·exact rest_6 ky sl gn gd rq bk wt w
 ·exact rest_7 ky sl gn gd rq bk wt w
theorem Am (x:Ev):(fV x).kind=0:=by
 unfold fV
 repeat' split
 all_goals rfl
def FD.zero:FD:=⟨⟨0,0,none⟩,0,0,0⟩
theorem Ex {F:List FD} {k:Nat} {f:FD} (hk:k<F.length) (hf:f=F.getD k FD.zero) (hall:∀ f∈F.take k,zU f) (hi:zU f):∀ f∈F.take (k+1),zU f:=by
 rw [Ia hk];intro y hy;rcases List.mem_append.1 hy with hy|hy
 ·exact hall y hy
 ·simp at hy;rw [hy];rw [hf] at hi;simpa [List.getD,hk] using hi
theorem ve (kd ky sl gn:Int) (gd:Bool) (rq bk wt:Int) (code:Int) (w:World) (h:jJ ⟨kd,ky,sl,gn,gd,rq,bk,wt⟩ code) :
  Calls Tryz.prog 30 #[.agg #[.int .i64 kd,.int .i64 ky,.int .i64 sl,.int .i64 gn,.bool gd,.int .i64 rq,.int .i64 bk,.int .i64 wt]] w fun e w'=>e=.returned (.int .i64 code)∧Below w.heap.size w w':=by
 have HC:=Hu h
 obtain ⟨ok,hok⟩:∃ ok,ok=decide (1≤kd∧kd≤7):=⟨_,rfl⟩
 have HOK:=Hu hok
 clear h hok
 go_enter Tryz.func30,Tryz.ntmps30
 go_wp2_with fail
 refine (eD ⟨kd,ky,sl,gn,gd,rq,bk,wt⟩ w.heap.size (w.heap.size+1) 0 ok _ (by go_simp) HOK.out).mono ?_
 rintro e w1 ⟨v1,rfl,R1,hb1⟩
 have B1:=Hu ((((Hv w.heap.size w).alloc (I3 _) (.cells #[.int .i64 kd,.int .i64 ky,.int .i64 sl,.int .i64 gn,.bool gd,.int .i64 rq,.int .i64 bk,.int .i64 wt] 72)).alloc (by simp) (.cells #[.int .i64 0] 3)).trans (hb1.mono Zs))
 have x0:=Hu (aj hb1 ((Hz (w:=w.alloc (.cells #[.int .i64 kd,.int .i64 ky,.int .i64 sl,.int .i64 gn,.bool gd,.int .i64 rq,.int .i64 bk,.int .i64 wt] 72)) (.cells #[.int .i64 0] 3) w.heap.size (by simp)).trans (az _ rfl)) Zs)
 have x1:=Hu (aj hb1 (az (w:=w.alloc (.cells #[.int .i64 kd,.int .i64 ky,.int .i64 sl,.int .i64 gn,.bool gd,.int .i64 rq,.int .i64 bk,.int .i64 wt] 72)) (k:=w.heap.size+1) (.cells #[.int .i64 0] 3) (by simp)) Zs)
 have s1:=hb1.size
 simp at s1
 clear hb1
 cases ok with
 | false=>
  have hno:¬ (1≤kd∧kd≤7):=by have:=HOK.out;simpa using this
  obtain rfl:code=5:=by
   rcases HC.out with ⟨_,h⟩|⟨h,_⟩|⟨h,_⟩|⟨h,_⟩
   ·exact h
   all_goals exact absurd h hno
  obtain ⟨a,cap,rfl,_⟩:=aq R1.1;clear R1 hno HC HOK;have B1':=B1.out;go_wp2
  all_goals exact Zf
 | true=>
  have hyes:1≤kd∧kd≤7:=by have:=HOK.out;simpa using this
  have HY:=Hu hyes;have HAt:=Hu (fd_at (x:=⟨kd,ky,sl,gn,gd,rq,bk,wt⟩) (g:=0) hyes x0.out ((ae x1.out 0).trans rfl));have HSp:=Hu (Ge (x:=⟨kd,ky,sl,gn,gd,rq,bk,wt⟩) (be:=w.heap.size) (bg:=w.heap.size+1) (g:=0));have HIn:=Hu (evF_in (x:=⟨kd,ky,sl,gn,gd,rq,bk,wt⟩) hyes w.heap.size (w.heap.size+1));have hlen:=Gf ⟨kd,ky,sl,gn,gd,rq,bk,wt⟩ w.heap.size (w.heap.size+1) 0;generalize eG ⟨kd,ky,sl,gn,gd,rq,bk,wt⟩ w.heap.size (w.heap.size+1) 0=F at R1 HAt HSp HIn hlen;obtain ⟨a,cap,rfl,_,_,_,p⟩:=aK FD.zero R1.1;have P:=Hu p;clear R1 hyes p HOK;go_wp2_with fail;go_loopw [16] (fun i wr=>∃ k:Nat,k≤F.length∧i=.int .i64 k∧Below w1.heap.size w1 wr∧∀ f∈F.take k,zU f) (fun i _=>F.length - (intOf i).toNat)
  case atStart=>exact ⟨0,I4 _,rfl,Hv _ _,fun f hf=>by simp at hf⟩
  case round=>
   obtain ⟨k,hk,rfl,hb,hall⟩:=hrel;have HA:=Hu hall;have HB:=Hu hb;clear hall;rcases (show k<F.length∨F.length=k by omega) with hlt|heq
   ·have hlt':(k:Int)<(F.length:Int):=by omega
    obtain ⟨b0,o0,rfl,hb0,q⟩:=P.out (by intro h;rw [h] at hlt;simp at hlt);obtain ⟨f,hf⟩:∃ f,f=F.getD k FD.zero:=⟨_,rfl⟩
    have hmem:f∈F:=by rw [hf];simp only [List.getD,Ib hlt,Iu];exact If _
    have hold:∀ j,j<3→wr.cell? ⟨b0,o0+k*3+j,none⟩=f.cells[j]?:=fun j hj=>by
     rw [hb.cell (p:=⟨b0,o0+k*3+j,none⟩) hb0,hf];exact q k j hlt hj
    have a0:=hold 0 (by omega);have a1:=hold 1 (by omega);have a2:=hold 2 (by omega);obtain ⟨l3,v3⟩:=HAt.out f hmem;obtain ⟨bb,oo,hsp⟩:=HSp.out f hmem;have HF:=Hu hf;have HMem:=Hu hmem;clear hold hf q hmem;obtain ⟨fa,lo,hi,vl⟩:=f;simp only at hsp l3 v3;subst hsp;simp only [FD.cells,I5,I6,Nat.add_zero] at a0 a1 a2;simp only at l3;have a3:wr.cell? ⟨bb,oo,none⟩=some (.int .i64 vl):=(hb.cell (p:=⟨bb,oo,none⟩) l3).trans v3;have lb:b0<wr.heap.size:=bR a0;have l4:bb<wr.heap.size:=bR a3;clear hb v3;rcases (show vl<lo∨(lo≤vl∧hi<vl)∨(lo≤vl∧vl≤hi) by omega) with c1|⟨c1,c2⟩|⟨c1,c2⟩
    ·have hc:code=2:=by
      exact Q73
     have HCd:=Hu hc;have hd:decide (vl<lo)=true:=by simpa using c1
     exact Q99
    ·have hc:code=2:=by
      exact Q73
     have HCd:=Hu hc;have hd:decide (vl<lo)=false:=by simpa using c1
     have hd2:decide (hi<vl)=true:=by simpa using c2
     exact Q99
    ·have HN:=Hu (Ex hlt HF.out HA.out ⟨c1,c2⟩);have hd:decide (vl<lo)=false:=by simpa using c1
     have hd2:decide (hi<vl)=false:=by simpa using c2
     go_wp2_with fail;go_quiet (fail);go_wp2;go_roundw
     case rel=>exact ⟨k+1,by omega,by go_num,aJ (HB.out.alloc HB.out.size _),HN.out⟩
     case measure=>simp [intOf];omega
   ·have hge:¬ (k:Int)<(F.length:Int):=by omega
    have HI:Hid (nU ⟨kd,ky,sl,gn,gd,rq,bk,wt⟩):=HIn.out.1 (fun f hf=>HA.out f (by rw [Ie (by omega)];exact hf));have hN:=aj hb x0.out (by omega);have d0:=ae hN 0;have d1:=ae hN 1;have d2:=ae hN 2;have d3:=ae hN 3;have d4:=ae hN 4;have d5:=ae hN 5;have d6:=ae hN 6;have d7:=ae hN 7;simp at d0 d1 d2 d3 d4 d5 d6 d7
    have m0:w.heap.size<wr.heap.size:=by have:=hb.size;omega
    have HBw:=Hu (B1.out.trans (hb.mono (by omega)));obtain ⟨z,hz⟩:∃ z,z=fV ⟨kd,ky,sl,gn,gd,rq,bk,wt⟩:=⟨_,rfl⟩;have HZ:=Hu hz
    have hzk:z.kind=0:=by rw [hz];exact Am _
    have HR:=Hu (Aq (x:=⟨kd,ky,sl,gn,gd,rq,bk,wt⟩) HY.out wr);rw [← hz] at HR;clear hb hN hz heq;obtain ⟨z0,z1,z2,z3,z4,z5,z6,z7⟩:=z;simp only at hzk;subst hzk;go_wp2_with fail;refine HR.out.mono ?_;rintro e w2 ⟨rfl,hb2⟩;have B2:=Hu (HBw.out.trans (hb2.mono (by omega)));unfold Ev.agg;clear hb2 HR;by_cases hzz:z1=0∧z2=0∧z3=0∧z4=false∧z5=0∧z6=0∧z7=0
    ·obtain ⟨rfl,rfl,rfl,rfl,rfl,rfl,rfl⟩:=hzz
     have hc:code=0:=by
      rcases HC.out with ⟨h,_⟩|⟨_,h,_⟩|⟨_,_,h,_⟩|⟨_,_,_,h⟩
      ·exact absurd HY.out h
      ·exact absurd HI.out h
      ·exact absurd HZ.out.symm h
      ·exact h
     have HCd:=Hu hc;clear hc;exact Q43
    ·have hc:code=3:=by
      rcases HC.out with ⟨h,_⟩|⟨_,h,_⟩|⟨_,_,_,h⟩|⟨_,_,h,_⟩
      ·exact absurd HY.out h
      ·exact absurd HI.out h
      ·exact h
      ·rw [← HZ.out] at h;simp only [Ev.zero,Ev.mk.injEq] at h;exact absurd h.2 hzz
     have HCd:=Hu hc;clear hc
     have hcs:z1≠0∨(z1=0∧z2≠0)∨(z1=0∧z2=0∧z3≠0)∨(z1=0∧z2=0∧z3=0∧z4=true)∨(z1=0∧z2=0∧z3=0∧z4=false∧z5≠0)∨(z1=0∧z2=0∧z3=0∧z4=false∧z5=0∧z6≠0)∨(z1=0∧z2=0∧z3=0∧z4=false∧z5=0∧z6=0∧z7≠0):=by
      cases z4<;>simp at hzz ⊢<;>omega
     clear hzz;rcases hcs with h|⟨rfl,h⟩|⟨rfl,rfl,h⟩|⟨rfl,rfl,rfl,rfl⟩|⟨rfl,rfl,rfl,rfl,h⟩|⟨rfl,rfl,rfl,rfl,rfl,h⟩|⟨rfl,rfl,rfl,rfl,rfl,rfl,h⟩
     ·have e1:(z1 == 0)=false:=by simpa using h
      clear h;exact Q43
     ·have e1:(z2 == 0)=false:=by simpa using h
      clear h;exact Q43
     ·have e1:(z3 == 0)=false:=by simpa using h
      clear h;exact Q43
     ·exact Q43
     ·have e1:(z5 == 0)=false:=by simpa using h
      clear h;exact Q43
     ·have e1:(z6 == 0)=false:=by simpa using h
      clear h;exact Q43
     ·have e1:(z7 == 0)=false:=by simpa using h
      clear h;exact Q43
theorem vT:(Tryz.prog.info? 153).map (fun i=>(i.zero,i.size,i.bytes))=some (some (.slice none 0 0),1,24):=by kernel_rfl
def tT (n:Nat):List (List Value):=List.replicate n [.slice none 0 0]
theorem CX (n:Nat):∀ c∈tT n,c.length=1:=by
 intro c hc;rw [List.eq_of_mem_replicate hc]
 rfl
theorem AG (n:Nat):(madeCells #[.slice none 0 0] (n*1)).toList=(tT n).flatten:=fy #[.slice none 0 0] n (by decide)
def TabNew (w:World) (X:List Sl) (e:Ending) (w':World):Prop:=∃ v,e=.returned (.tuple #[.agg #[v],.int .i64 0])∧aM w.heap.size w' 4 v (X.map Sl.cells)∧Below w.heap.size w w'
def WheNew (w:World) (now:Int) (e:Ending) (w':World):Prop:=∃ v,e=.returned (.tuple #[.agg #[.int .i64 now,v],.int .i64 0])∧aM w.heap.size w' 1 v (tT 25)∧Below w.heap.size w w'
theorem ld (n:Nat) (w:World) (h1:1≤n) (h2:n≤40):Calls Tryz.prog 26 #[.int .i64 n] w (TabNew w (fS n)):=by
 obtain ⟨i0,hi,hz0,hz1,hz2⟩:=info_parts Be;have g1:(1:Int)≤(n:Int):=by omega
 have g2:(n:Int)≤40:=by omega
 have G1:=Hu h1;have G2:=Hu h2;clear h1 h2;go_enter Tryz.func26,Tryz.ntmps26;go_wp2_with (at_make;go_loud (refine wpList_make_full _ rfl _ _ 45 rfl (w.heap.size+1) 143 i0 (.agg #[.int .i64 0,.bool false,.int .i64 0,.int .i64 0]) 4 Tryz.underlying45 hi hz0 hz1 .i64 .i64 n n n rfl rfl rfl rfl ?c1 ?c2 ?c3 ?_))
 case c1=>have:=G2.out;rw [hz2];omega
 case c2=>have:=G2.out;unfold maxLen;omega
 case c3=>simp
 intro w1 hown hgrow;rw [yg] at hown;have B0:Below (w.heap.size+1) (w.alloc (Obj.cells #[Value.slice none 0 0] 47)) w1:=(Hv _ _).grown hgrow (by simp) (fun k hk=>by cases hk);obtain ⟨hc,hf⟩:=aV B0;have hz:=fQ B0;go_wp2;refine Ix (v:=.tuple #[.agg #[.slice (some ⟨w.heap.size+1,0,none⟩) n n],.int .i64 0]) ?_ rfl ?_
 ·simp [results,Tryz.results26,go_sem, *]
 ·refine ⟨_,rfl,aG (aD (ownsRow_setCell_below hown (by simp) _) (by simp [fS]) (zZ n)) (by omega),?_⟩;exact (((Hv _ _).alloc (I3 _) _).trans (B0.mono (by omega))).setCell (by simp) _
theorem tC (n:Int) (w:World) (h1:0≤n) (h2:n≤1099511627776):Calls Tryz.prog 28 #[.int .i64 n] w (WheNew w n):=by
 obtain ⟨i0,hi,hz0,hz1,hz2⟩:=info_parts vT;go_enter Tryz.func28,Tryz.ntmps28;go_wp2_with (at_make;go_loud (refine wpList_make_full _ rfl _ _ 59 rfl (w.heap.size+1) 153 i0 (.slice none 0 0) 1 Tryz.underlying59 hi hz0 hz1 .i64 .i64 25 25 25 rfl rfl rfl rfl ?c1 ?c2 ?c3 ?_))
 case c1=>rw [hz2];omega
 case c2=>unfold maxLen;omega
 case c3=>simp
 intro w1 hown hgrow;rw [show (madeCells #[.slice none 0 0] 25).toList=(tT 25).flatten from AG 25] at hown;have B0:=(Hv (w.heap.size+1) _).grown hgrow (by simp) (fun k hk=>by cases hk);obtain ⟨hc,hf⟩:=aV B0;have hz:=fQ B0;go_wp2;refine Ix (v:=.tuple #[.agg #[.int .i64 n,.slice (some ⟨w.heap.size+1,0,none⟩) 25 25],.int .i64 0]) ?_ rfl ?_
 ·simp [results,Tryz.results28,go_sem, *]
 ·refine ⟨_,rfl,aG (aD (ownsRow_setCell_below (ownsRow_setCell_below hown (by simp) _) (by simp) _) (by simp [tT]) (CX 25)) (by omega),?_⟩;exact ((((Hv _ _).alloc (I3 _) _).trans (B0.mono (by omega))).setCell (by simp) _).setCell (by simp) _
def GZ (w:World) (num den tries warm drain idle connect retries most bn bd bb ww wf wh:Int) (N:Nat) (e:Ending) (w':World):Prop:=∃ vt vh vl,e=.returned (.tuple #[.agg (jV (N:Int) num den tries warm drain idle connect retries most bn bd bb ww wf wh vt vh (bb*bd) vl),.int .i64 0])∧aI w' 4 vt ((fS N).map Sl.cells)∧aI w' 4 vh (iM 12)∧aI w' 1 vl (tT 25)∧Below w.heap.size w w'
theorem hz_row {w:World} {b:Nat} (h:w.heap[b]?=some (.cells (iM 12).flatten.toArray 129 (0,0))):aI w 4 (.slice (some ⟨b,0,none⟩) 12 12) (iM 12):=
 fL (base:=0) (e:=129) (n:=12) (qn (n:=12) (sz:=4) (I4 _) h (by unfold maxLen;omega) (by rw [aO (kQ 12),ij])) (ij 12) (kQ 12)
theorem ry (num den tries warm drain idle connect retries most bn bd bb ww wf wh:Int) (N:Nat) (w:World) (h:ju ⟨N,num,den,tries,warm,drain,idle,connect,retries,most,bn,bd,bb,ww,wf,wh⟩):Calls Tryz.prog 19 #[.agg #[.int .i64 (N:Int),.int .i64 num,.int .i64 den,.int .i64 tries,.int .i64 warm,.int .i64 drain,.int .i64 idle,.int .i64 connect,.int .i64 retries,.int .i64 most,.int .i64 bn,.int .i64 bd,.int .i64 bb,.int .i64 ww,.int .i64 wf,.int .i64 wh]] w (GZ w num den tries warm drain idle connect retries most bn bd bb ww wf wh N):=by
 have H:=Hu h
 have HN:Hid (1≤N∧N≤40):=by
  obtain ⟨⟨_,_,hf1,hf2,_⟩,_,_⟩:=h;simp only at hf1 hf2;exact ⟨by omega,by omega⟩
 have HBd:Hid (i8 bn bd bb):=h.2.1;clear h;obtain ⟨HZ,hHZ⟩:∃ HZ,HZ=(iM 12).flatten.toArray:=⟨_,rfl⟩
 have hmk:∀ W,(Instr.makeSlice 56 (.int .i64 12) (.int .i64 12)).run Tryz.prog W=.ok (.slice (some ⟨W.heap.size,0,none⟩) 12 12) (W.alloc (.cells HZ 129)):=by
  intro W;subst hHZ
  kernel_rfl
 have HHZ:=Hu hHZ;clear hHZ;go_enter Tryz.func19,Tryz.ntmps19;go_wp2_with (go_at_call 25;refine (kj _ _ _ _ _ _ _ _ _ _ _ _ _ _ _ _ _ H.out).mono ?_;rintro e w1 ⟨rfl,hb1⟩);have x0':=aj hb1 ((Hz (w:=w.alloc (.cells #[.int .i64 (N:Int),.int .i64 num,.int .i64 den,.int .i64 tries,.int .i64 warm,.int .i64 drain,.int .i64 idle,.int .i64 connect,.int .i64 retries,.int .i64 most,.int .i64 bn,.int .i64 bd,.int .i64 bb,.int .i64 ww,.int .i64 wf,.int .i64 wh] 43)) (.cells #[.int .i64 0,.int .i64 0,.int .i64 0,.int .i64 0,.int .i64 0,.int .i64 0,.int .i64 0,.int .i64 0,.int .i64 0,.int .i64 0,.int .i64 0,.int .i64 0,.int .i64 0,.int .i64 0,.int .i64 0,.int .i64 0,.int .i64 0,.slice none 0 0,.slice none 0 0,.slice none 0 0,.slice none 0 0,.slice none 0 0,.slice none 0 0,.int .i64 0,.int .i64 0,.slice none 0 0] 63) _ (by simp)).trans (az (w:=w) (.cells #[.int .i64 (N:Int),.int .i64 num,.int .i64 den,.int .i64 tries,.int .i64 warm,.int .i64 drain,.int .i64 idle,.int .i64 connect,.int .i64 retries,.int .i64 most,.int .i64 bn,.int .i64 bd,.int .i64 bb,.int .i64 ww,.int .i64 wf,.int .i64 wh] 43) rfl)) Zs;have x1':=aj hb1 (az (w:=w.alloc (.cells #[.int .i64 (N:Int),.int .i64 num,.int .i64 den,.int .i64 tries,.int .i64 warm,.int .i64 drain,.int .i64 idle,.int .i64 connect,.int .i64 retries,.int .i64 most,.int .i64 bn,.int .i64 bd,.int .i64 bb,.int .i64 ww,.int .i64 wf,.int .i64 wh] 43)) (k:=w.heap.size+1) (.cells #[.int .i64 0,.int .i64 0,.int .i64 0,.int .i64 0,.int .i64 0,.int .i64 0,.int .i64 0,.int .i64 0,.int .i64 0,.int .i64 0,.int .i64 0,.int .i64 0,.int .i64 0,.int .i64 0,.int .i64 0,.int .i64 0,.int .i64 0,.slice none 0 0,.slice none 0 0,.slice none 0 0,.slice none 0 0,.slice none 0 0,.slice none 0 0,.int .i64 0,.int .i64 0,.slice none 0 0] 63) (by simp)) Zs;have B0:=Hu ((((Hv w.heap.size w).alloc (I3 _) (.cells #[.int .i64 (N:Int),.int .i64 num,.int .i64 den,.int .i64 tries,.int .i64 warm,.int .i64 drain,.int .i64 idle,.int .i64 connect,.int .i64 retries,.int .i64 most,.int .i64 bn,.int .i64 bd,.int .i64 bb,.int .i64 ww,.int .i64 wf,.int .i64 wh] 43)).alloc (by simp) (.cells #[.int .i64 0,.int .i64 0,.int .i64 0,.int .i64 0,.int .i64 0,.int .i64 0,.int .i64 0,.int .i64 0,.int .i64 0,.int .i64 0,.int .i64 0,.int .i64 0,.int .i64 0,.int .i64 0,.int .i64 0,.int .i64 0,.int .i64 0,.slice none 0 0,.slice none 0 0,.slice none 0 0,.slice none 0 0,.slice none 0 0,.slice none 0 0,.int .i64 0,.int .i64 0,.slice none 0 0] 63)).trans (hb1.mono Zs));have d0:=ae x0' 0;have d1:=ae x0' 1;have d2:=ae x0' 2;have d3:=ae x0' 3;have d4:=ae x0' 4;have d5:=ae x0' 5;have d6:=ae x0' 6;have d7:=ae x0' 7;have d8:=ae x0' 8;have d9:=ae x0' 9;have d10:=ae x0' 10;have d11:=ae x0' 11;have d12:=ae x0' 12;have d13:=ae x0' 13;have d14:=ae x0' 14;have d15:=ae x0' 15;simp only [I7,I6,I5] at d0 d1 d2 d3 d4 d5 d6 d7 d8 d9 d10 d11 d12 d13 d14 d15;have x0:=Hu x0';have x1:=Hu x1';have m0:w.heap.size<w1.heap.size:=lt_of_block x0';have m1:w.heap.size+1<w1.heap.size:=lt_of_block x1';clear x0' x1' hb1;go_wp2_with fail;refine wp_region_noPanic ?_;refine wp_region_held_drew (S:=fun w'=>w'.heap[w.heap.size]?=some (.cells #[.int .i64 (N:Int),.int .i64 num,.int .i64 den,.int .i64 tries,.int .i64 warm,.int .i64 drain,.int .i64 idle,.int .i64 connect,.int .i64 retries,.int .i64 most,.int .i64 bn,.int .i64 bd,.int .i64 bb,.int .i64 ww,.int .i64 wf,.int .i64 wh] 43 (0,0))) (by kernel_rfl) ?hb (fun hHeld=>?_)
 case hb=>exact x0.out
 clear d0 d1 d2 d3 d4 d5 d6 d7 d8 d9 d10 d11 d12 d13 d14 d15;refine wpAnyH_take (i:=0) (v:=?v0) (by simp only [I7,I5];exact rfl) (by kernel_rfl) (by kernel_rfl) (by kernel_rfl) (fun _ _ _ h=>h) (Or.inl ⟨by rfl,?y0⟩) (by assumption) ?_
 case y0=>(intro w' hSw;(try dsimp only at hSw);have d0:=ae hSw 0;have d1:=ae hSw 1;have d2:=ae hSw 2;have d3:=ae hSw 3;have d4:=ae hSw 4;have d5:=ae hSw 5;have d6:=ae hSw 6;have d7:=ae hSw 7;have d8:=ae hSw 8;have d9:=ae hSw 9;have d10:=ae hSw 10;have d11:=ae hSw 11;have d12:=ae hSw 12;have d13:=ae hSw 13;have d14:=ae hSw 14;have d15:=ae hSw 15;simp only [I7,I6,I5] at d0 d1 d2 d3 d4 d5 d6 d7 d8 d9 d10 d11 d12 d13 d14 d15;go_simp;(try with_reducible rfl))
 (try simp only [Act.put,List.setIfInBounds_toArray,List.set_cons_zero,List.set_cons_succ]);refine Z2 1 3 (fun K hK=>?_) (fun K hK=>?_)
 ·skip
  go_simp;refine Zk hK (hS:=by exact (Hz _ _ _ (by first|(simp;omega)|omega)).trans hHeld) fun hHeld=>?_;clear hK K;refine Zt 2 ?_;refine Z1 3 (fun K hK=>?_);go_simp;refine Zk hK (hS:=by exact (Hz _ _ _ (by first|(simp;omega)|omega)).trans hHeld) fun hHeld=>?_;clear hK K;refine Z1 4 (fun K hK=>?_);rw [if_pos (by rfl)];refine IA 63 (.tmp 5) (.tmp 14) rfl (w1.heap.size+1) (jV (N:Int) num den tries warm drain idle connect retries most bn bd bb ww wf wh (.slice none 0 0) (.slice (some ⟨w1.heap.size,0,none⟩) 12 12) 0 (.slice none 0 0)) rfl rfl 63 bP (az (w:=World.alloc (World.drew w1) _) (k:=w1.heap.size+1) _ (by simp)) (by kernel_rfl) rfl (qp _ _ _ _ _ _ _ _ _ _ _ _ _ _ _ _ _ _ _ _ _ _ _ _ _ _) ?_;refine hK.out _ _ ?s4 (fun hHeld=>?_)
  case s4=>exact b8 hHeld (by omega)
  have d0:=ae hHeld 0;simp only [I7,I5] at d0;clear hK K hHeld;(try simp only [Act.put]);refine Zd ?_;go_wp2_with fail;clear d0;obtain ⟨S1,hS1⟩:∃ S1,S1=w1.heap.size:=⟨_,rfl⟩;obtain ⟨TOP,hT⟩:∃ TOP,TOP=w1.heap.size+1+1:=⟨_,rfl⟩;rw [← hS1];refine (ld N _ HN.out.1 HN.out.2).mono ?_;rintro e w2 ⟨vt,rfl,R2,hb2⟩;have hs2:=hb2.size;simp [World.setRow] at hs2;have KB:Below w1.heap.size w1 w2:=(aW ((((Hv w1.heap.size w1).drew).alloc (I3 _) _).alloc (by simp) _) (by omega)).trans (hb2.mono (by simp [World.setRow];omega));have xw:w2.heap[(S1+1)]?=some (.cells (jV (N:Int) num den tries warm drain idle connect retries most bn bd bb ww wf wh (.slice none 0 0) (.slice (some ⟨S1,0,none⟩) 12 12) 0 (.slice none 0 0)) 63 (0,0)):=aj hb2 (aZ (az (w:=World.alloc (World.drew w1) _) (k:=S1+1) _ (by simp [hS1]))) (by simp [World.setRow];omega);have xm:w2.heap[S1]?=some (.cells HZ 129 (0,0)):=aj hb2 (b8 ((Hz (w:=World.alloc (World.drew w1) _) _ _ (by simp [hS1])).trans (az (w:=World.drew w1) _ hS1)) (by omega)) (by simp [World.setRow];omega);have R2':=Hu (aG (B':=TOP) R2 (by simp [World.setRow];omega));have nb1:w.heap.size<(S1+1):=by omega
  have nb2:w.heap.size+1<(S1+1):=by omega
  have nb3:(S1+1)<TOP:=by omega
  have nb4:(S1+1)≠S1:=by omega
  have nb5:w.heap.size+1<S1:=by omega
  have nb6:w1.heap.size≤(S1+1):=by omega
  have nb7:w.heap.size+1<TOP:=by omega
  clear hb2 R2 hT hs2;clear hS1;generalize S1+1=bw at *;generalize S1=bm at *;exact Q7
 ·skip
  go_simp;refine Zk hK (hS:=by exact (Hz _ _ _ (by first|(simp;omega)|omega)).trans hHeld) fun hHeld=>?_;clear hK K;refine Z1 1 (fun K hK=>?_);go_simp;refine Zk hK (hS:=by exact (Hz _ _ _ (by first|(simp;omega)|omega)).trans hHeld) fun hHeld=>?_;clear hK K;refine Zt 2 ?_;refine Z1 4 (fun K hK=>?_);rw [if_pos (by rfl)];refine IA 63 (.tmp 5) (.tmp 14) rfl (w1.heap.size) (jV (N:Int) num den tries warm drain idle connect retries most bn bd bb ww wf wh (.slice none 0 0) (.slice (some ⟨w1.heap.size+1,0,none⟩) 12 12) 0 (.slice none 0 0)) rfl rfl 63 bP ((Hz (w:=World.alloc (World.drew w1) _) _ _ (by simp)).trans (az (w:=World.drew w1) _ rfl)) (by kernel_rfl) rfl (qp _ _ _ _ _ _ _ _ _ _ _ _ _ _ _ _ _ _ _ _ _ _ _ _ _ _) ?_;refine hK.out _ _ ?s4b (fun hHeld=>?_)
  case s4b=>exact b8 hHeld (by omega)
  have d0:=ae hHeld 0;simp only [I7,I5] at d0;clear hK K hHeld;(try simp only [Act.put]);refine Zd ?_;go_wp2_with fail;clear d0;obtain ⟨S1,hS1⟩:∃ S1,S1=w1.heap.size:=⟨_,rfl⟩;obtain ⟨TOP,hT⟩:∃ TOP,TOP=w1.heap.size+1+1:=⟨_,rfl⟩;rw [← hS1];refine (ld N _ HN.out.1 HN.out.2).mono ?_;rintro e w2 ⟨vt,rfl,R2,hb2⟩;have hs2:=hb2.size;simp [World.setRow] at hs2;have KB:Below w1.heap.size w1 w2:=(aW ((((Hv w1.heap.size w1).drew).alloc (I3 _) _).alloc (by simp) _) (by omega)).trans (hb2.mono (by simp [World.setRow];omega));have xw:w2.heap[S1]?=some (.cells (jV (N:Int) num den tries warm drain idle connect retries most bn bd bb ww wf wh (.slice none 0 0) (.slice (some ⟨(S1+1),0,none⟩) 12 12) 0 (.slice none 0 0)) 63 (0,0)):=aj hb2 (aZ ((Hz (w:=World.alloc (World.drew w1) _) _ _ (by simp [hS1])).trans (az (w:=World.drew w1) _ hS1))) (by simp [World.setRow];omega);have xm:w2.heap[(S1+1)]?=some (.cells HZ 129 (0,0)):=aj hb2 (b8 (az (w:=World.alloc (World.drew w1) _) (k:=S1+1) _ (by simp [hS1])) (by omega)) (by simp [World.setRow];omega);have R2':=Hu (aG (B':=TOP) R2 (by simp [World.setRow];omega));have nb1:w.heap.size<S1:=by omega
  have nb2:w.heap.size+1<S1:=by omega
  have nb3:S1<TOP:=by omega
  have nb4:S1≠(S1+1):=by omega
  have nb5:w.heap.size+1<(S1+1):=by omega
  have nb6:w1.heap.size≤S1:=by omega
  have nb7:w.heap.size+1<TOP:=by omega
  clear hb2 R2 hT hs2;clear hS1;generalize S1+1=bm at *;generalize S1=bw at *;exact Q7
end
end Go.Proofs.YtfliffgmeobclaaGreat
