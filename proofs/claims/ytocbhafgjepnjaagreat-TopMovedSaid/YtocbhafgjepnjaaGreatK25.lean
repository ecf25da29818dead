/- Texts of the row's proof. Conditions: none. -/
import Derived.Shelf.SlSortCmp.NoneTotal
import Derived.Test.YtocbhafgjepnjaaGreatK07
namespace Go.Proofs.YtocbhafgjepnjaaGreat
set_option maxRecDepth 100000
set_option maxHeartbeats 8000000
section
open Go.RowKit
theorem Q55 {p:Prop} (h:p:=by
 (try go_wp2_with fail);refine Zk hK fun hHeld=>?_;clear hK K;refine eP 12 ?_;refine Zd ?_;have hbD:Below wr.heap.size wr w2:=(aI (n:=1) (Ic wr.heap.size wr)).trans (hb2.mono (by simp));have HB2:=Ib (HB.out.trans (hbD.mono HB.out.size));clear hbD hb2 a0 a1;go_wp2;go_ret2;exact ⟨i,_,rfl,HC.out,HB2.out⟩):p:=h
theorem Q83 {p:Prop} (h:p:=by
 subst heq;clear hge;go_wp2_with fail;refine Zr (fun _=>True) (fun hHeld=>?_) (by (try dsimp only);all_goals trivial);refine eB 0 ?_;refine eB 8 ?_;refine Zd ?_;go_wp2;go_ret2;exact ⟨X.length,_,rfl,HC.out,HB.out.drew⟩):p:=h
theorem Q92 {p:Prop} (h:p:=by
 subst hr;go_enter Tryz.func111,Tryz.ntmps111;go_wp2
 all_goals first|(go_ret;exact ⟨rfl,rfl⟩)|exact Zx):p:=h
theorem Q123 {p:Prop} (h:p:=by
 rw [rounds_succ];go_wp2
 all_goals first|(go_ret;exact ⟨rfl,rfl⟩)|exact Zx):p:=h
end
section
open Go.RowKit Go.Shelf Go.Sort
def dy (x y:Int):Int:=if x<y then -1 else if y<x then 1 else 0
def orI (x y:Int):Int:=if x=0 then y else x
theorem BI (x y:Int) (w:World):Calls Tryz.prog 111 #[.int .i64 x,.int .i64 y] w fun e w'=>e=.returned (.int .i64 (dy x y))∧w'=w:=by
 obtain ⟨r,hr⟩:∃ r,r=dy x y:=⟨_,rfl⟩;rw [← hr];unfold dy at hr;rcases (show x<y∨(¬ x<y∧y<x)∨(¬ x<y∧¬ y<x) by omega) with h|⟨h,h2⟩|⟨h,h2⟩
 ·rw [if_pos h] at hr;exact Q92
 ·rw [if_neg h,if_pos h2] at hr;exact Q92
 ·rw [if_neg h,if_neg h2] at hr;exact Q92
theorem sG (B:Nat) (x y:Int) (w:World) (h0:w.cell? ⟨B,0,none⟩=some (.int .i64 x)) (h1:w.cell? ⟨B,1,none⟩=some (.int .i64 y)) :
  Calls Tryz.prog 110 #[.slice (some ⟨B,0,none⟩) 2 2] w fun e w'=>e=.returned (.int .i64 (orI x y))∧w'=w:=by
 unfold orI
 by_cases hx:x=0
 ·subst hx;rw [if_pos rfl];by_cases hy:y=0
  ·subst hy;go_enter Tryz.func110,Tryz.ntmps110;go_wp2;refine wp_loop_rounds 3 ?_;rw [rounds_succ];go_wp2;rw [rounds_succ];go_wp2;exact Q123
  ·go_enter Tryz.func110,Tryz.ntmps110;go_wp2;refine wp_loop_rounds 2 ?_;rw [rounds_succ];go_wp2;exact Q123
 ·rw [if_neg hx];go_enter Tryz.func110,Tryz.ntmps110;go_wp2;refine wp_loop_rounds 1 ?_;exact Q123
theorem oa {B:Nat} {w w':World} (h:∃ q os',w'=Go.Sort.grow (w.drewN q) os') (hB:B≤w.heap.size):Below B w w':=by
 obtain ⟨q,os,rfl⟩:=h;refine ⟨(below_drewN (Ic B w) q).os,(below_drewN (Ic B w) q).tape,(below_drewN (Ic B w) q).output,?_,fun j hj=>?_⟩
 ·unfold Go.Sort.grow;have:=(below_drewN (Ic B w) q).size;simp
  try omega
 ·unfold Go.Sort.grow;have h1:=(below_drewN (Ic B w) q).size;have h2:=(below_drewN (Ic B w) q).block j hj;simp only;rw [Array.getElem?_append_left (by omega)];exact h2
def uc (x y:Tm):Int:=orI (dy x.at_ y.at_) (dy x.id y.id)
theorem GL (x y:Tm):ltOf uc x y=mV x y:=by
 unfold ltOf uc orI dy mV;by_cases h1:x.at_<y.at_
 ·simp [h1]
 ·by_cases h2:y.at_<x.at_
  ·have h3:¬ x.at_=y.at_:=by omega
   simp [h1,h2,h3]
  ·have h3:x.at_=y.at_:=by omega
   by_cases h4:x.id<y.id
   ·simp [h3,h4]
   ·by_cases h5:y.id<x.id<;>simp [h3,h4,h5]
theorem FO (x y:Tm) (W:World):Calls Tryz.prog 165 #[.agg (Tm.cells x).toArray,.agg (Tm.cells y).toArray] W fun e w'=>e=.returned (.int .i64 (uc x y))∧∃ q os',w'=Go.Sort.grow (W.drewN q) os':=by
 obtain ⟨x0,x1⟩:=x;obtain ⟨y0,y1⟩:=y;unfold Tm.cells;go_enter Tryz.func165,Tryz.ntmps165;go_wp2_with fail;refine Zr (fun w':World=>w'.cell? ⟨W.heap.size,0,none⟩=some (.int .i64 x0)∧w'.cell? ⟨W.heap.size,1,none⟩=some (.int .i64 x1)∧w'.cell? ⟨W.heap.size+1,0,none⟩=some (.int .i64 y0)∧w'.cell? ⟨W.heap.size+1,1,none⟩=some (.int .i64 y1)) (fun hHeld=>?_) (by (try dsimp only);((try obtain ⟨s0,s1,s2,s3⟩:=hHeld);refine ⟨?_,?_,?_,?_⟩<;>first|assumption|(exact aD _ ‹_›)|(simp;done)));refine eP 0 ?_;refine eP 5 ?_;refine Z1 4 (fun K hK=>?_);go_simp;(first|(go_at_call 111;refine (BI _ _ _).mono ?_;rintro e w' ⟨rfl,rfl⟩;(try dsimp only))|(go_at_call 110;refine (sG (W.heap.size+1+1) (dy x0 y0) (dy x1 y1) _ (by exact (aa (au (w:=World.alloc (World.alloc W _) _) (k:=W.heap.size+1+1) (.cells #[.int .i64 (dy x0 y0),.int .i64 (dy x1 y1)] 3) (by simp)) 0)) (by exact (aa (au (w:=World.alloc (World.alloc W _) _) (k:=W.heap.size+1+1) (.cells #[.int .i64 (dy x0 y0),.int .i64 (dy x1 y1)] 3) (by simp)) 1))).mono ?_;rintro e w' ⟨rfl,rfl⟩;(try dsimp only)));(try go_wp2_with fail);refine Zk hK (hS:=by (try dsimp only);((try obtain ⟨s0,s1,s2,s3⟩:=hHeld);refine ⟨?_,?_,?_,?_⟩<;>first|assumption|(exact aD _ ‹_›)|(simp;done))) fun hHeld=>?_;clear hK K;refine Z1 9 (fun K hK=>?_);go_simp;(first|(go_at_call 111;refine (BI _ _ _).mono ?_;rintro e w' ⟨rfl,rfl⟩;(try dsimp only))|(go_at_call 110;refine (sG (W.heap.size+1+1) (dy x0 y0) (dy x1 y1) _ (by exact (aa (au (w:=World.alloc (World.alloc W _) _) (k:=W.heap.size+1+1) (.cells #[.int .i64 (dy x0 y0),.int .i64 (dy x1 y1)] 3) (by simp)) 0)) (by exact (aa (au (w:=World.alloc (World.alloc W _) _) (k:=W.heap.size+1+1) (.cells #[.int .i64 (dy x0 y0),.int .i64 (dy x1 y1)] 3) (by simp)) 1))).mono ?_;rintro e w' ⟨rfl,rfl⟩;(try dsimp only)));(try go_wp2_with fail);refine Zk hK (hS:=by (try dsimp only);((try obtain ⟨s0,s1,s2,s3⟩:=hHeld);refine ⟨?_,?_,?_,?_⟩<;>first|assumption|(exact aD _ ‹_›)|(simp;done))) fun hHeld=>?_;clear hK K;refine Z1 10 (fun K hK=>?_);go_simp;refine Zk hK (hS:=by (try dsimp only);((try obtain ⟨s0,s1,s2,s3⟩:=hHeld);refine ⟨?_,?_,?_,?_⟩<;>first|assumption|(exact aD _ ‹_›)|(simp;done))) fun hHeld=>?_;clear hK K;refine Z1 11 (fun K hK=>?_);go_simp;(first|(go_at_call 111;refine (BI _ _ _).mono ?_;rintro e w' ⟨rfl,rfl⟩;(try dsimp only))|(go_at_call 110;refine (sG (W.heap.size+1+1) (dy x0 y0) (dy x1 y1) _ (by exact (aa (au (w:=World.alloc (World.alloc W _) _) (k:=W.heap.size+1+1) (.cells #[.int .i64 (dy x0 y0),.int .i64 (dy x1 y1)] 3) (by simp)) 0)) (by exact (aa (au (w:=World.alloc (World.alloc W _) _) (k:=W.heap.size+1+1) (.cells #[.int .i64 (dy x0 y0),.int .i64 (dy x1 y1)] 3) (by simp)) 1))).mono ?_;rintro e w' ⟨rfl,rfl⟩;(try dsimp only)));(try go_wp2_with fail);refine Zk hK (hS:=by (try dsimp only);((try obtain ⟨s0,s1,s2,s3⟩:=hHeld);refine ⟨?_,?_,?_,?_⟩<;>first|assumption|(exact aD _ ‹_›)|(simp;done))) fun hHeld=>?_;clear hK K;refine Zt 12 ?_;refine Zd ?_;go_wp2
 all_goals (go_ret;refine ⟨rfl,1,#[.cells #[.int .i64 x0,.int .i64 x1] 180,.cells #[.int .i64 y0,.int .i64 y1] 180,.cells #[.int .i64 (dy x0 y0),.int .i64 (dy x1 y1)] 3],?_⟩;rw [alloc_eq_grow,alloc_eq_grow,alloc_eq_grow,grow_grow,grow_grow];rfl)
def cutT (X:List Tm) (x:Tm) (k:Nat):Prop:=k≤X.length∧(∀ i,i<k→mV (X.getD i Tm.zero) x=true)∧(∀ i,k≤i→i<X.length→mV (X.getD i Tm.zero) x=false)
theorem nu {X:List Tm} (h:iQ X) {i j:Nat} (hij:i≤j) (hj:j<X.length):gS (X.getD i Tm.zero) (X.getD j Tm.zero)=true:=by
 have e1:X.getD i Tm.zero=X[i]:=by simp [List.getD,show i<X.length by omega]
 have e2:X.getD j Tm.zero=X[j]:=by simp [List.getD,hj]
 rw [e1,e2];rcases Nat.lt_or_ge i j with h'|h'
 ·exact List.pairwise_iff_getElem.1 h i j (by omega) hj h'
 ·have:i=j:=by omega
  subst this;unfold gS;rw [lF]
  rfl
theorem uE {a b x:Tm} (h:gS a b=true) (hb:mV b x=true):mV a x=true:=by rw [jc] at h;rw [ti] at hb ⊢;omega
theorem th {a b x:Tm} (h:gS a b=true) (ha:mV a x=false):mV b x=false:=by rw [jc] at h;rw [tf] at ha ⊢;omega
theorem tR {a b:Tm}:(uc a b<0)↔mV a b=true:=by rw [← GL];unfold ltOf;simp
theorem FP (x y:Tm) (w:World):Calls Tryz.prog 165 #[.agg #[.int .i64 x.at_,.int .i64 x.id],.agg #[.int .i64 y.at_,.int .i64 y.id]] w fun e w'=>e=.returned (.int .i64 (uc x y))∧Below w.heap.size w w':=
 (FO x y w).mono fun _ _ ⟨h1,h2⟩=>⟨h1,oa h2 (Ij _)⟩
theorem mp (x y:Tm) (r:Int) (hr:r=uc x y) (w:World):Calls Tryz.prog 165 #[.agg #[.int .i64 x.at_,.int .i64 x.id],.agg #[.int .i64 y.at_,.int .i64 y.id]] w fun e w'=>e=.returned (.int .i64 r)∧Below w.heap.size w w':=by
 rw [hr];exact FP x y w
def Hp (w:World) (X:List Tm) (x:Tm) (e:Ending) (w':World):Prop:=∃ (k:Nat) (f:Bool),e=.returned (.tuple #[.int .i64 (k:Int),.bool f])∧cutT X x k∧Below w.heap.size w w'
theorem bsTm (v:Value) (X:List Tm) (x:Tm) (w:World) (r:aG w 2 v (X.map Tm.cells)) (ho:iQ X) (hn:X.length≤1000000000000000):Calls Tryz.prog 173 #[v,.agg #[.int .i64 x.at_,.int .i64 x.id],.func (.func 165) #[] #[]] w (Hp w X x):=by
 obtain ⟨a,c,rfl,l1,m1,n1,p1⟩:=aJ Tm.zero r;have P1:=Ib p1;have HO:=Ib ho;unfold maxLen at m1;obtain ⟨x0,x1⟩:=x;have eg:∀ args w,(callFunc 165 args).run Tryz.prog w=.ok (.enter 165 args) w:=enters_of Tryz.func165 (by kernel_rfl) rfl;clear r p1 ho;go_enter Tryz.func173,Tryz.ntmps173;go_wp2;go_loopw [9,10] (fun a b wr=>∃ i j:Nat,a=.int .i64 i∧b=.int .i64 j∧i≤j∧j≤X.length∧(∀ k,k<i→mV (X.getD k Tm.zero) ⟨x0,x1⟩=true)∧(∀ k,j≤k→k<X.length→mV (X.getD k Tm.zero) ⟨x0,x1⟩=false)∧Below w.heap.size w wr∧wr.cell? ⟨w.heap.size,0,none⟩=some (.int .i64 x0)∧wr.cell? ⟨w.heap.size,1,none⟩=some (.int .i64 x1)) (fun a b _=>(intOf b - intOf a).toNat)
 case atStart=>exact ⟨0,X.length,rfl,rfl,Ik _,Ij _,fun k hk=>by omega,fun k h1 h2=>by omega,(Ic _ _).alloc (Ij _) _,by go_simp,by go_simp⟩
 case round=>
  obtain ⟨i,j,rfl,rfl,hij,hj,h1,h2,hb,t0,t1⟩:=hrel;have HB:=Ib hb;have H1:=Ib h1;have H2:=Ib h2;have hz:=bS t0;clear hb h1 h2;rcases (show i<j∨i=j by omega) with hlt|rfl
  ·have hlt':(i:Int)<(j:Int):=by omega
   obtain ⟨h,hh⟩:∃ h,h=(i+j) / 2:=⟨_,rfl⟩;have hh1:i≤h:=by omega
   have hh2:h<j:=by omega
   have hh3:((i:Int)+(j:Int)) / 2=(h:Int):=by omega
   have hh4:h<X.length:=by omega
   obtain ⟨b0,o0,rfl,hb0,q1⟩:=P1.out (by intro h';rw [h'] at hh4;simp at hh4);obtain ⟨s,hs⟩:∃ s,s=X.getD h Tm.zero:=⟨_,rfl⟩;have a0:=q1 h 0 hh4 (by omega);have a1:=q1 h 1 hh4 (by omega);rw [← hs] at a0 a1;have HS:=Ib hs;obtain ⟨s0,s1⟩:=s;simp only [Tm.cells,Il,Im,Nat.add_zero] at a0 a1;have a0:=ae HB.out a0 hb0;have a1:=ae HB.out a1 hb0;have i0:(0:Int)≤(h:Int):=by omega
   have i2:(0:Int)≤(i:Int)+(j:Int):=by omega
   have i3:(i:Int)+(j:Int)≤4000000000000000:=by omega
   have i1:(h:Int)<(X.length:Int):=by omega
   clear hs q1 hh;obtain ⟨r,hr⟩:∃ r,r=uc ⟨s0,s1⟩ ⟨x0,x1⟩:=⟨_,rfl⟩;have HR:=Ib hr;clear hr;by_cases hsp:mV ⟨s0,s1⟩ ⟨x0,x1⟩=true
   ·have hneg:r<0:=by rw [HR.out];exact tR.2 hsp
    have HSP:=Ib hsp;clear hsp;go_wp2_with fail;refine Zr (fun w'=>w'.cell? ⟨b0,o0+h*2,none⟩=some (.int .i64 s0)∧w'.cell? ⟨b0,o0+h*2+1,none⟩=some (.int .i64 s1)∧w'.cell? ⟨w.heap.size,0,none⟩=some (.int .i64 x0)∧w'.cell? ⟨w.heap.size,1,none⟩=some (.int .i64 x1)) (fun hHeld=>?_);refine eP 0 ?_;refine dd 4 ?_;refine Z1 6 (fun K hK=>?_);go_simp;(go_at_call 165;refine (mp ⟨s0,s1⟩ ⟨x0,x1⟩ r HR.out _).mono ?_;rintro e w2 ⟨rfl,hb2⟩);(try go_wp2_with fail);refine Zk hK fun hHeld=>?_;clear hK K;refine Zt 7 ?_;refine Zd ?_;have hbD:Below wr.heap.size wr w2:=(aI (n:=1) (Ic wr.heap.size wr)).trans (hb2.mono (by simp));have t0:=ae hbD t0 hz;have t1:=ae hbD t1 hz;have HB2:=Ib (HB.out.trans (hbD.mono HB.out.size));clear hbD hb2 a0 a1;go_wp2;go_roundw
    case rel=>
     refine ⟨h+1,j,by go_num,rfl,by omega,hj,fun k hk=>?_,H2.out,HB2.out,t0,t1⟩;exact uE (nu HO.out (show k≤h by omega) hh4) (by rw [← HS.out];exact HSP.out)
    case measure=>simp [intOf];omega
   ·have hneg:¬ r<0:=by rw [HR.out];exact fun h=>hsp (tR.1 h)
    have HSP:=Ib (show mV ⟨s0,s1⟩ ⟨x0,x1⟩=false by simpa using hsp);clear hsp;go_wp2_with fail;refine Zr (fun w'=>w'.cell? ⟨b0,o0+h*2,none⟩=some (.int .i64 s0)∧w'.cell? ⟨b0,o0+h*2+1,none⟩=some (.int .i64 s1)∧w'.cell? ⟨w.heap.size,0,none⟩=some (.int .i64 x0)∧w'.cell? ⟨w.heap.size,1,none⟩=some (.int .i64 x1)) (fun hHeld=>?_);refine eP 0 ?_;refine dd 4 ?_;refine Z1 6 (fun K hK=>?_);go_simp;(go_at_call 165;refine (mp ⟨s0,s1⟩ ⟨x0,x1⟩ r HR.out _).mono ?_;rintro e w2 ⟨rfl,hb2⟩);(try go_wp2_with fail);refine Zk hK fun hHeld=>?_;clear hK K;refine Zt 7 ?_;refine Zd ?_;have hbD:Below wr.heap.size wr w2:=(aI (n:=1) (Ic wr.heap.size wr)).trans (hb2.mono (by simp));have t0:=ae hbD t0 hz;have t1:=ae hbD t1 hz;have HB2:=Ib (HB.out.trans (hbD.mono HB.out.size));clear hbD hb2 a0 a1;go_wp2;go_roundw
    case rel=>
     refine ⟨i,h,rfl,rfl,hh1,by omega,H1.out,fun k h3 h4=>?_,HB2.out,t0,t1⟩;exact th (nu HO.out h3 h4) (by rw [← HS.out];exact HSP.out)
    case measure=>simp [intOf];omega
  ·have HC:=Ib (show cutT X ⟨x0,x1⟩ i from ⟨hj,H1.out,H2.out⟩);have hge:¬ (i:Int)<(i:Int):=by omega
   rcases (show i<X.length∨i=X.length by omega) with hlt|heq
   ·have hlt':(i:Int)<(X.length:Int):=by omega
    obtain ⟨b0,o0,rfl,hb0,q1⟩:=P1.out (by intro h';rw [h'] at hlt;simp at hlt);obtain ⟨s,hs⟩:∃ s,s=X.getD i Tm.zero:=⟨_,rfl⟩;have a0:=q1 i 0 hlt (by omega);have a1:=q1 i 1 hlt (by omega);rw [← hs] at a0 a1;obtain ⟨s0,s1⟩:=s;simp only [Tm.cells,Il,Im,Nat.add_zero] at a0 a1;have a0:=ae HB.out a0 hb0;have a1:=ae HB.out a1 hb0;have i0:(0:Int)≤(i:Int):=by omega
    obtain ⟨r,hr⟩:∃ r,r=uc ⟨s0,s1⟩ ⟨x0,x1⟩:=⟨_,rfl⟩;have HR:=Ib hr;clear hs q1 hr;go_wp2_with fail;refine Zr (fun w'=>w'.cell? ⟨b0,o0+i*2,none⟩=some (.int .i64 s0)∧w'.cell? ⟨b0,o0+i*2+1,none⟩=some (.int .i64 s1)∧w'.cell? ⟨w.heap.size,0,none⟩=some (.int .i64 x0)∧w'.cell? ⟨w.heap.size,1,none⟩=some (.int .i64 x1)) (fun hHeld=>?_);refine eB 0 ?_;refine dd 8 ?_;refine Zt 10 ?_;refine Z1 11 (fun K hK=>?_);go_simp;(go_at_call 165;refine (mp ⟨s0,s1⟩ ⟨x0,x1⟩ r HR.out _).mono ?_;rintro e w2 ⟨rfl,hb2⟩);exact Q55
   ·exact Q83
theorem D2 {X:List Tm} (h:∀ k,k+1<X.length→mV (X.getD (k+1) Tm.zero) (X.getD k Tm.zero)=false):iQ X:=by
 have key:∀ j i,i≤j→j<X.length→gS (X.getD i Tm.zero) (X.getD j Tm.zero)=true:=by
  intro j
  induction j with
  | zero=>
   intro i hi hj;obtain rfl:i=0:=by omega
   unfold gS;rw [lF]
   rfl
  | succ j ih=>
   intro i hi hj;by_cases h':i=j+1
   ·subst h';unfold gS;rw [lF]
    rfl
   ·refine px _ _ _ (ih i (by omega) (by omega)) ?_;unfold gS;rw [h j hj]
    rfl
 refine List.pairwise_iff_getElem.2 fun i j hi hj hij=>?_;have:=key j i (by omega) hj;simpa [List.getD,hi,hj] using this
theorem Dy (v:Value) (X:List Tm) (w:World) (r0:aG w 2 v (X.map Tm.cells)) (hn:X.length≤1000000000000000) (r:Bool) (hr:(iQ X∧r=true)∨(¬ iQ X∧r=false)):Calls Tryz.prog 164 #[v,.func (.func 165) #[] #[]] w fun e w'=>e=.returned (.bool r)∧Below w.heap.size w w':=by
 obtain ⟨a,c,rfl,l1,m1,n1,p1⟩:=aJ Tm.zero r0;have HR:=Ib hr;have eg:∀ args w,(callFunc 165 args).run Tryz.prog w=.ok (.enter 165 args) w:=enters_of Tryz.func165 (by kernel_rfl) rfl;unfold maxLen at m1;clear r0 hr;by_cases hX:X=[]
 ·obtain rfl:r=true:=by
   rcases HR.out with ⟨_,h⟩|⟨h,_⟩
   ·exact h
   ·exact absurd (by rw [hX];exact List.Pairwise.nil) h
  subst hX;clear HR p1;go_enter Tryz.func164,Tryz.ntmps164;go_wp2;refine wp_loop_rounds 1 ?_;rw [rounds_succ];go_wp2
  all_goals first|(go_ret;exact ⟨rfl,Zb⟩)|exact Zx
 ·obtain ⟨b0,o0,rfl,hb0,q1⟩:=p1 hX;have Q1:=Ib q1;obtain ⟨n,hl⟩:∃ n,X.length=n+1:=⟨X.length - 1,by have:=List.length_pos_iff.2 hX;omega⟩;rw [hl];have HL:=Ib hl;have hl1:n+1≤X.length:=by omega
  have hl2:X.length≤n+1:=by omega
  clear p1 q1 hl hX;go_enter Tryz.func164,Tryz.ntmps164;go_wp2;go_loopw [5] (fun i wr=>∃ k:Nat,k≤n∧i=.int .i64 k∧(∀ m,k≤m→m+1<X.length→mV (X.getD (m+1) Tm.zero) (X.getD m Tm.zero)=false)∧Below w.heap.size w wr) (fun i _=>(intOf i).toNat)
  case atStart=>exact ⟨n,Ij _,by go_num,fun m h1 h2=>by omega,Ic _ _⟩
  case round=>
   obtain ⟨k,hk,rfl,hall,hb⟩:=hrel;have HA:=Ib hall;have HB:=Ib hb;rcases (show k=0∨∃ q,k=q+1 by rcases k with _|q;exact Or.inl rfl;exact Or.inr ⟨q,rfl⟩) with hk0|⟨q,rfl⟩
   ·obtain rfl:r=true:=by
     rcases HR.out with ⟨_,h⟩|⟨h,_⟩
     ·exact h
     ·exact absurd (D2 fun m hm=>HA.out m (by omega) hm) h
    clear HR hb hall;subst hk0;go_wp2
    all_goals first|(go_ret;exact ⟨rfl,HB.out⟩)|exact Zx
   ·obtain ⟨s,hs⟩:∃ s,s=X.getD (q+1) Tm.zero:=⟨_,rfl⟩;obtain ⟨t,ht⟩:∃ t,t=X.getD q Tm.zero:=⟨_,rfl⟩;have a0:=Q1.out (q+1) 0 (by omega) (by omega);have a1:=Q1.out (q+1) 1 (by omega) (by omega);have d0:=Q1.out q 0 (by omega) (by omega);have d1:=Q1.out q 1 (by omega) (by omega);rw [← hs] at a0 a1;rw [← ht] at d0 d1;have HS:=Ib hs;have HT:=Ib ht;obtain ⟨s0,s1⟩:=s;obtain ⟨t0,t1⟩:=t;simp only [Tm.cells,Il,Im,Nat.add_zero] at a0 a1 d0 d1;have a0:=ae hb a0 hb0;have a1:=ae hb a1 hb0;have d0:=ae hb d0 hb0;have d1:=ae hb d1 hb0;have hbw:=hb.size;obtain ⟨x,hx⟩:∃ x,x=uc ⟨s0,s1⟩ ⟨t0,t1⟩:=⟨_,rfl⟩;have HX:=Ib hx;have hq1:(0:Int)<(q:Int)+1:=by omega
    have hq2:(q:Int)+1<(n:Int)+1:=by omega
    have hq3:(q:Int)<(n:Int)+1:=by omega
    have hq0:(0:Int)≤(q:Int):=by omega
    have hq4:(0:Int)≤(q:Int)+1:=by omega
    have hq5:((q:Int)+1).toNat=q+1:=by omega
    have hq6:IntKind.i64.wrap (q:Int)=(q:Int):=IL _ (by omega);clear hs ht hb hall hx;by_cases hneg:x<0
    ·obtain rfl:r=false:=by
      rcases HR.out with ⟨h,_⟩|⟨_,h⟩
      ·have h1:mV ⟨s0,s1⟩ ⟨t0,t1⟩=true:=tR.1 (by rw [← HX.out];exact hneg);have h2:=nu h (show q≤q+1 by omega) (by omega);rw [← HS.out,← HT.out] at h2;unfold gS at h2;rw [h1] at h2
       cases h2
      ·exact h
     go_wp2_with fail;refine Zr (fun w'=>w'.cell? ⟨b0,o0+(q+1)*2,none⟩=some (.int .i64 s0)∧w'.cell? ⟨b0,o0+(q+1)*2+1,none⟩=some (.int .i64 s1)∧w'.cell? ⟨b0,o0+q*2,none⟩=some (.int .i64 t0)∧w'.cell? ⟨b0,o0+q*2+1,none⟩=some (.int .i64 t1)) (fun hHeld=>?_);refine eB 0 ?_;refine dd 8 ?_;refine Z1 10 (fun K hK=>?_);go_simp;(go_at_call 165;refine (mp ⟨s0,s1⟩ ⟨t0,t1⟩ x HX.out _).mono ?_;rintro e w2 ⟨rfl,hb2⟩);(try go_wp2_with fail);refine Zk hK fun hHeld=>?_;clear hK K;refine Zt 11 ?_;refine Zd ?_;have HB2:=Ib (HB.out.trans (((aI (n:=1) (Ic wr.heap.size wr)).trans (hb2.mono (by simp))).mono HB.out.size));clear hb2 a0 a1 d0 d1;go_wp2
     all_goals first|(go_ret;exact ⟨rfl,HB2.out⟩)|exact Zx
    ·have HN:=Ib (show mV ⟨s0,s1⟩ ⟨t0,t1⟩=false by
      cases h:mV ⟨s0,s1⟩ ⟨t0,t1⟩ with
      | false=>rfl
      | true=>exact absurd (by rw [HX.out];exact tR.2 h) hneg)
     go_wp2_with fail;refine Zr (fun w'=>w'.cell? ⟨b0,o0+(q+1)*2,none⟩=some (.int .i64 s0)∧w'.cell? ⟨b0,o0+(q+1)*2+1,none⟩=some (.int .i64 s1)∧w'.cell? ⟨b0,o0+q*2,none⟩=some (.int .i64 t0)∧w'.cell? ⟨b0,o0+q*2+1,none⟩=some (.int .i64 t1)) (fun hHeld=>?_);refine eB 0 ?_;refine dd 8 ?_;refine Z1 10 (fun K hK=>?_);go_simp;(go_at_call 165;refine (mp ⟨s0,s1⟩ ⟨t0,t1⟩ x HX.out _).mono ?_;rintro e w2 ⟨rfl,hb2⟩);(try go_wp2_with fail);refine Zk hK fun hHeld=>?_;clear hK K;refine Zt 11 ?_;refine Zd ?_;have HB2:=Ib (HB.out.trans (((aI (n:=1) (Ic wr.heap.size wr)).trans (hb2.mono (by simp))).mono HB.out.size));clear hb2 a0 a1 d0 d1;go_wp2;go_roundw
     case rel=>
      refine ⟨q,by omega,by go_num,fun m h1 h2=>?_,HB2.out⟩;rcases (show m=q∨q+1≤m by omega) with rfl|h3
      ·rw [← HS.out,← HT.out];exact HN.out
      ·exact HA.out m h3 h2
     case measure=>simp [intOf]
def oK (x y:Sp):Int:=orI (dy x.hash y.hash) (dy x.backend y.backend)
theorem kU (x y:Sp):ltOf oK x y=rR x y:=by
 unfold ltOf oK orI dy rR;by_cases h1:x.hash<y.hash
 ·simp [h1]
 ·by_cases h2:y.hash<x.hash
  ·have h3:¬ x.hash=y.hash:=by omega
   simp [h1,h2,h3]
  ·have h3:x.hash=y.hash:=by omega
   by_cases h4:x.backend<y.backend
   ·simp [h3,h4]
   ·by_cases h5:y.backend<x.backend<;>simp [h3,h4,h5]
theorem zq (x y:Sp) (W:World):Calls Tryz.prog 56 #[.agg (Sp.cells x).toArray,.agg (Sp.cells y).toArray] W fun e w'=>e=.returned (.int .i64 (oK x y))∧∃ q os',w'=Go.Sort.grow (W.drewN q) os':=by
 obtain ⟨x0,x1⟩:=x;obtain ⟨y0,y1⟩:=y;unfold Sp.cells;go_enter Tryz.func56,Tryz.ntmps56;go_wp2_with fail;refine Zr (fun w':World=>w'.cell? ⟨W.heap.size,0,none⟩=some (.int .i64 x0)∧w'.cell? ⟨W.heap.size,1,none⟩=some (.int .i64 x1)∧w'.cell? ⟨W.heap.size+1,0,none⟩=some (.int .i64 y0)∧w'.cell? ⟨W.heap.size+1,1,none⟩=some (.int .i64 y1)) (fun hHeld=>?_) (by (try dsimp only);((try obtain ⟨s0,s1,s2,s3⟩:=hHeld);refine ⟨?_,?_,?_,?_⟩<;>first|assumption|(exact aD _ ‹_›)|(simp;done)));refine eP 0 ?_;refine eP 5 ?_;refine Z1 4 (fun K hK=>?_);go_simp;(first|(go_at_call 111;refine (BI _ _ _).mono ?_;rintro e w' ⟨rfl,rfl⟩;(try dsimp only))|(go_at_call 110;refine (sG (W.heap.size+1+1) (dy x0 y0) (dy x1 y1) _ (by exact (aa (au (w:=World.alloc (World.alloc W _) _) (k:=W.heap.size+1+1) (.cells #[.int .i64 (dy x0 y0),.int .i64 (dy x1 y1)] 3) (by simp)) 0)) (by exact (aa (au (w:=World.alloc (World.alloc W _) _) (k:=W.heap.size+1+1) (.cells #[.int .i64 (dy x0 y0),.int .i64 (dy x1 y1)] 3) (by simp)) 1))).mono ?_;rintro e w' ⟨rfl,rfl⟩;(try dsimp only)));(try go_wp2_with fail);refine Zk hK (hS:=by (try dsimp only);((try obtain ⟨s0,s1,s2,s3⟩:=hHeld);refine ⟨?_,?_,?_,?_⟩<;>first|assumption|(exact aD _ ‹_›)|(simp;done))) fun hHeld=>?_;clear hK K;refine Z1 9 (fun K hK=>?_);go_simp;(first|(go_at_call 111;refine (BI _ _ _).mono ?_;rintro e w' ⟨rfl,rfl⟩;(try dsimp only))|(go_at_call 110;refine (sG (W.heap.size+1+1) (dy x0 y0) (dy x1 y1) _ (by exact (aa (au (w:=World.alloc (World.alloc W _) _) (k:=W.heap.size+1+1) (.cells #[.int .i64 (dy x0 y0),.int .i64 (dy x1 y1)] 3) (by simp)) 0)) (by exact (aa (au (w:=World.alloc (World.alloc W _) _) (k:=W.heap.size+1+1) (.cells #[.int .i64 (dy x0 y0),.int .i64 (dy x1 y1)] 3) (by simp)) 1))).mono ?_;rintro e w' ⟨rfl,rfl⟩;(try dsimp only)));(try go_wp2_with fail);refine Zk hK (hS:=by (try dsimp only);((try obtain ⟨s0,s1,s2,s3⟩:=hHeld);refine ⟨?_,?_,?_,?_⟩<;>first|assumption|(exact aD _ ‹_›)|(simp;done))) fun hHeld=>?_;clear hK K;refine Z1 10 (fun K hK=>?_);go_simp;refine Zk hK (hS:=by (try dsimp only);((try obtain ⟨s0,s1,s2,s3⟩:=hHeld);refine ⟨?_,?_,?_,?_⟩<;>first|assumption|(exact aD _ ‹_›)|(simp;done))) fun hHeld=>?_;clear hK K;refine Z1 11 (fun K hK=>?_);go_simp;(first|(go_at_call 111;refine (BI _ _ _).mono ?_;rintro e w' ⟨rfl,rfl⟩;(try dsimp only))|(go_at_call 110;refine (sG (W.heap.size+1+1) (dy x0 y0) (dy x1 y1) _ (by exact (aa (au (w:=World.alloc (World.alloc W _) _) (k:=W.heap.size+1+1) (.cells #[.int .i64 (dy x0 y0),.int .i64 (dy x1 y1)] 3) (by simp)) 0)) (by exact (aa (au (w:=World.alloc (World.alloc W _) _) (k:=W.heap.size+1+1) (.cells #[.int .i64 (dy x0 y0),.int .i64 (dy x1 y1)] 3) (by simp)) 1))).mono ?_;rintro e w' ⟨rfl,rfl⟩;(try dsimp only)));(try go_wp2_with fail);refine Zk hK (hS:=by (try dsimp only);((try obtain ⟨s0,s1,s2,s3⟩:=hHeld);refine ⟨?_,?_,?_,?_⟩<;>first|assumption|(exact aD _ ‹_›)|(simp;done))) fun hHeld=>?_;clear hK K;refine Zt 12 ?_;refine Zd ?_;go_wp2
 all_goals (go_ret;refine ⟨rfl,1,#[.cells #[.int .i64 x0,.int .i64 x1] 106,.cells #[.int .i64 y0,.int .i64 y1] 106,.cells #[.int .i64 (dy x0 y0),.int .i64 (dy x1 y1)] 3],?_⟩;rw [alloc_eq_grow,alloc_eq_grow,alloc_eq_grow,grow_grow,grow_grow];rfl)
def sF (X:List Sp) (x:Sp) (k:Nat):Prop:=k≤X.length∧(∀ i,i<k→rR (X.getD i Sp.zero) x=true)∧(∀ i,k≤i→i<X.length→rR (X.getD i Sp.zero) x=false)
theorem vu {X:List Sp} (h:EK X) {i j:Nat} (hij:i≤j) (hj:j<X.length):je (X.getD i Sp.zero) (X.getD j Sp.zero)=true:=by
 have e1:X.getD i Sp.zero=X[i]:=by simp [List.getD,show i<X.length by omega]
 have e2:X.getD j Sp.zero=X[j]:=by simp [List.getD,hj]
 rw [e1,e2];rcases Nat.lt_or_ge i j with h'|h'
 ·exact List.pairwise_iff_getElem.1 h i j (by omega) hj h'
 ·have:i=j:=by omega
  subst this;unfold je;rw [xI]
  rfl
theorem uN {a b x:Sp} (h:je a b=true) (hb:rR b x=true):rR a x=true:=by rw [jZ] at h;rw [oS] at hb ⊢;omega
theorem tq {a b x:Sp} (h:je a b=true) (ha:rR a x=false):rR b x=false:=by rw [jZ] at h;rw [lI] at ha ⊢;omega
theorem Hs {a b:Sp}:(oK a b<0)↔rR a b=true:=by rw [← kU];unfold ltOf;simp
theorem orderB (x y:Sp) (w:World):Calls Tryz.prog 56 #[.agg #[.int .i64 x.hash,.int .i64 x.backend],.agg #[.int .i64 y.hash,.int .i64 y.backend]] w fun e w'=>e=.returned (.int .i64 (oK x y))∧Below w.heap.size w w':=
 (zq x y w).mono fun _ _ ⟨h1,h2⟩=>⟨h1,oa h2 (Ij _)⟩
theorem xW (x y:Sp) (r:Int) (hr:r=oK x y) (w:World):Calls Tryz.prog 56 #[.agg #[.int .i64 x.hash,.int .i64 x.backend],.agg #[.int .i64 y.hash,.int .i64 y.backend]] w fun e w'=>e=.returned (.int .i64 r)∧Below w.heap.size w w':=by
 rw [hr];exact orderB x y w
def BsPost (w:World) (X:List Sp) (x:Sp) (e:Ending) (w':World):Prop:=∃ (k:Nat) (f:Bool),e=.returned (.tuple #[.int .i64 (k:Int),.bool f])∧sF X x k∧Below w.heap.size w w'
theorem bsSp (v:Value) (X:List Sp) (x:Sp) (w:World) (r:aG w 2 v (X.map Sp.cells)) (ho:EK X) (hn:X.length≤1000000000000000):Calls Tryz.prog 60 #[v,.agg #[.int .i64 x.hash,.int .i64 x.backend],.func (.func 56) #[] #[]] w (BsPost w X x):=by
 obtain ⟨a,c,rfl,l1,m1,n1,p1⟩:=aJ Sp.zero r;have P1:=Ib p1;have HO:=Ib ho;unfold maxLen at m1;obtain ⟨x0,x1⟩:=x;have eg:∀ args w,(callFunc 56 args).run Tryz.prog w=.ok (.enter 56 args) w:=enters_of Tryz.func56 (by kernel_rfl) rfl;clear r p1 ho;go_enter Tryz.func60,Tryz.ntmps60;go_wp2;go_loopw [9,10] (fun a b wr=>∃ i j:Nat,a=.int .i64 i∧b=.int .i64 j∧i≤j∧j≤X.length∧(∀ k,k<i→rR (X.getD k Sp.zero) ⟨x0,x1⟩=true)∧(∀ k,j≤k→k<X.length→rR (X.getD k Sp.zero) ⟨x0,x1⟩=false)∧Below w.heap.size w wr∧wr.cell? ⟨w.heap.size,0,none⟩=some (.int .i64 x0)∧wr.cell? ⟨w.heap.size,1,none⟩=some (.int .i64 x1)) (fun a b _=>(intOf b - intOf a).toNat)
 case atStart=>exact ⟨0,X.length,rfl,rfl,Ik _,Ij _,fun k hk=>by omega,fun k h1 h2=>by omega,(Ic _ _).alloc (Ij _) _,by go_simp,by go_simp⟩
 case round=>
  obtain ⟨i,j,rfl,rfl,hij,hj,h1,h2,hb,t0,t1⟩:=hrel;have HB:=Ib hb;have H1:=Ib h1;have H2:=Ib h2;have hz:=bS t0;clear hb h1 h2;rcases (show i<j∨i=j by omega) with hlt|rfl
  ·have hlt':(i:Int)<(j:Int):=by omega
   obtain ⟨h,hh⟩:∃ h,h=(i+j) / 2:=⟨_,rfl⟩;have hh1:i≤h:=by omega
   have hh2:h<j:=by omega
   have hh3:((i:Int)+(j:Int)) / 2=(h:Int):=by omega
   have hh4:h<X.length:=by omega
   obtain ⟨b0,o0,rfl,hb0,q1⟩:=P1.out (by intro h';rw [h'] at hh4;simp at hh4);obtain ⟨s,hs⟩:∃ s,s=X.getD h Sp.zero:=⟨_,rfl⟩;have a0:=q1 h 0 hh4 (by omega);have a1:=q1 h 1 hh4 (by omega);rw [← hs] at a0 a1;have HS:=Ib hs;obtain ⟨s0,s1⟩:=s;simp only [Sp.cells,Il,Im,Nat.add_zero] at a0 a1;have a0:=ae HB.out a0 hb0;have a1:=ae HB.out a1 hb0;have i0:(0:Int)≤(h:Int):=by omega
   have i2:(0:Int)≤(i:Int)+(j:Int):=by omega
   have i3:(i:Int)+(j:Int)≤4000000000000000:=by omega
   have i1:(h:Int)<(X.length:Int):=by omega
   clear hs q1 hh;obtain ⟨r,hr⟩:∃ r,r=oK ⟨s0,s1⟩ ⟨x0,x1⟩:=⟨_,rfl⟩;have HR:=Ib hr;clear hr;by_cases hsp:rR ⟨s0,s1⟩ ⟨x0,x1⟩=true
   ·have hneg:r<0:=by rw [HR.out];exact Hs.2 hsp
    have HSP:=Ib hsp;clear hsp;go_wp2_with fail;refine Zr (fun w'=>w'.cell? ⟨b0,o0+h*2,none⟩=some (.int .i64 s0)∧w'.cell? ⟨b0,o0+h*2+1,none⟩=some (.int .i64 s1)∧w'.cell? ⟨w.heap.size,0,none⟩=some (.int .i64 x0)∧w'.cell? ⟨w.heap.size,1,none⟩=some (.int .i64 x1)) (fun hHeld=>?_);refine eP 0 ?_;refine dd 4 ?_;refine Z1 6 (fun K hK=>?_);go_simp;(go_at_call 56;refine (xW ⟨s0,s1⟩ ⟨x0,x1⟩ r HR.out _).mono ?_;rintro e w2 ⟨rfl,hb2⟩);(try go_wp2_with fail);refine Zk hK fun hHeld=>?_;clear hK K;refine Zt 7 ?_;refine Zd ?_;have hbD:Below wr.heap.size wr w2:=(aI (n:=1) (Ic wr.heap.size wr)).trans (hb2.mono (by simp));have t0:=ae hbD t0 hz;have t1:=ae hbD t1 hz;have HB2:=Ib (HB.out.trans (hbD.mono HB.out.size));clear hbD hb2 a0 a1;go_wp2;go_roundw
    case rel=>
     refine ⟨h+1,j,by go_num,rfl,by omega,hj,fun k hk=>?_,H2.out,HB2.out,t0,t1⟩;exact uN (vu HO.out (show k≤h by omega) hh4) (by rw [← HS.out];exact HSP.out)
    case measure=>simp [intOf];omega
   ·have hneg:¬ r<0:=by rw [HR.out];exact fun h=>hsp (Hs.1 h)
    have HSP:=Ib (show rR ⟨s0,s1⟩ ⟨x0,x1⟩=false by simpa using hsp);clear hsp;go_wp2_with fail;refine Zr (fun w'=>w'.cell? ⟨b0,o0+h*2,none⟩=some (.int .i64 s0)∧w'.cell? ⟨b0,o0+h*2+1,none⟩=some (.int .i64 s1)∧w'.cell? ⟨w.heap.size,0,none⟩=some (.int .i64 x0)∧w'.cell? ⟨w.heap.size,1,none⟩=some (.int .i64 x1)) (fun hHeld=>?_);refine eP 0 ?_;refine dd 4 ?_;refine Z1 6 (fun K hK=>?_);go_simp;(go_at_call 56;refine (xW ⟨s0,s1⟩ ⟨x0,x1⟩ r HR.out _).mono ?_;rintro e w2 ⟨rfl,hb2⟩);(try go_wp2_with fail);refine Zk hK fun hHeld=>?_;clear hK K;refine Zt 7 ?_;refine Zd ?_;have hbD:Below wr.heap.size wr w2:=(aI (n:=1) (Ic wr.heap.size wr)).trans (hb2.mono (by simp));have t0:=ae hbD t0 hz;have t1:=ae hbD t1 hz;have HB2:=Ib (HB.out.trans (hbD.mono HB.out.size));clear hbD hb2 a0 a1;go_wp2;go_roundw
    case rel=>
     refine ⟨i,h,rfl,rfl,hh1,by omega,H1.out,fun k h3 h4=>?_,HB2.out,t0,t1⟩;exact tq (vu HO.out h3 h4) (by rw [← HS.out];exact HSP.out)
    case measure=>simp [intOf];omega
  ·have HC:=Ib (show sF X ⟨x0,x1⟩ i from ⟨hj,H1.out,H2.out⟩);have hge:¬ (i:Int)<(i:Int):=by omega
   rcases (show i<X.length∨i=X.length by omega) with hlt|heq
   ·have hlt':(i:Int)<(X.length:Int):=by omega
    obtain ⟨b0,o0,rfl,hb0,q1⟩:=P1.out (by intro h';rw [h'] at hlt;simp at hlt);obtain ⟨s,hs⟩:∃ s,s=X.getD i Sp.zero:=⟨_,rfl⟩;have a0:=q1 i 0 hlt (by omega);have a1:=q1 i 1 hlt (by omega);rw [← hs] at a0 a1;obtain ⟨s0,s1⟩:=s;simp only [Sp.cells,Il,Im,Nat.add_zero] at a0 a1;have a0:=ae HB.out a0 hb0;have a1:=ae HB.out a1 hb0;have i0:(0:Int)≤(i:Int):=by omega
    obtain ⟨r,hr⟩:∃ r,r=oK ⟨s0,s1⟩ ⟨x0,x1⟩:=⟨_,rfl⟩;have HR:=Ib hr;clear hs q1 hr;go_wp2_with fail;refine Zr (fun w'=>w'.cell? ⟨b0,o0+i*2,none⟩=some (.int .i64 s0)∧w'.cell? ⟨b0,o0+i*2+1,none⟩=some (.int .i64 s1)∧w'.cell? ⟨w.heap.size,0,none⟩=some (.int .i64 x0)∧w'.cell? ⟨w.heap.size,1,none⟩=some (.int .i64 x1)) (fun hHeld=>?_);refine eB 0 ?_;refine dd 8 ?_;refine Zt 10 ?_;refine Z1 11 (fun K hK=>?_);go_simp;(go_at_call 56;refine (xW ⟨s0,s1⟩ ⟨x0,x1⟩ r HR.out _).mono ?_;rintro e w2 ⟨rfl,hb2⟩);exact Q55
   ·exact Q83
end
section
theorem pI {α:Type} {p:List α→Prop} (h0:p []) (h1:∀ L s,p L→p (L++[s])):∀ L,p L:=by
 intro L;rw [← L.reverse_reverse]
 induction L.reverse with
 | nil=>exact h0
 | cons s L ih=>rw [List.reverse_cons];exact h1 _ _ ih
def jY (out:List Int) (s:Sp):List Int:=if s.backend∈out then out else out++[s.backend]
def ej (L:List Sp):List Int:=L.foldl jY []
theorem iu (L:List Sp) (s:Sp):ej (L++[s])=jY (ej L) s:=by simp [ej]
theorem Aj (L:List Sp):(ej L).length≤L.length:=by
 refine pI (p:=fun L=>(ej L).length≤L.length) ?_ ?_ L
 ·simp [ej]
 ·intro L s ih;rw [iu,It];unfold jY
  split
  ·omega
  ·rw [It];simp;omega
theorem Ai (L:List Sp) (b:Int):b∈ej L↔∃ s∈L,s.backend=b:=by
 refine pI (p:=fun L=>b∈ej L↔∃ s∈L,s.backend=b) ?_ ?_ L
 ·simp [ej]
 ·intro L s ih;rw [iu]
  have h:b∈jY (ej L) s↔b∈ej L∨b=s.backend:=by
   unfold jY
   split
   ·constructor
    ·exact Or.inl
    ·rintro (h|rfl)
     ·exact h
     ·assumption
   ·simp
  rw [h,ih];constructor
  ·rintro (⟨t,ht,e⟩|rfl)
   ·exact ⟨t,by simp [ht],e⟩
   ·exact ⟨s,by simp,rfl⟩
  ·rintro ⟨t,ht,e⟩;rw [List.mem_append,List.mem_singleton] at ht;rcases ht with ht|rfl
   ·exact Or.inl ⟨t,ht,e⟩
   ·exact Or.inr e.symm
def xy (k:Nat) (X:List Sp):List Sp:=X.drop k++X.take k
theorem oV (k:Nat) (X:List Sp):(xy k X).length=X.length:=by
 unfold xy;rw [It,List.length_drop,Iz];omega
theorem FE {k:Nat} {X:List Sp} (hk:k≤X.length) {i:Nat} (h:i<X.length):(xy k X).getD i Sp.zero=X.getD ((k+i) % X.length) Sp.zero:=by
 unfold xy;simp only [List.getD];by_cases h1:i<X.length - k
 ·rw [IR (by rw [List.length_drop];exact h1),List.getElem?_drop,Nat.mod_eq_of_lt (by omega)]
 ·rw [IS (by rw [List.length_drop];omega),List.length_drop,List.getElem?_take_of_lt (by omega)]
  have:(k+i) % X.length=i - (X.length - k):=by
   rw [Nat.mod_eq_sub_mod (by omega),Nat.mod_eq_of_lt (by omega)];omega
  rw [this]
def gR (X:List Sp) (at_:Int):List Int:=ej (X.filter (fun s=>decide (at_≤s.hash))++X.filter (fun s=>decide (s.hash<at_)))
theorem yA {X:List Sp} {at_:Int} {k:Nat} (h1:Rg1 X) (h:sF X ⟨at_,-1⟩ k):xy k X=X.filter (fun s=>decide (at_≤s.hash))++X.filter (fun s=>decide (s.hash<at_)):=by
 obtain ⟨hk,ha,hb⟩:=h;have e:X=X.take k++X.drop k:=(IE k X).symm
 have f1:∀ s∈X.take k,s.hash<at_:=by
  intro s hs;obtain ⟨i,hi,rfl⟩:=List.mem_iff_getElem.1 hs;rw [Iz] at hi;have:=ha i (by omega);rw [oS] at this;have hm:=h1 ((X.take k)[i]'(by rw [Iz];omega)) (List.mem_of_mem_take (Iw _));have e2:X.getD i Sp.zero=(X.take k)[i]'(by rw [Iz];omega):=by simp [List.getD,show i<X.length by omega]
  rw [e2] at this;simp only at this;omega
 have f2:∀ s∈X.drop k,at_≤s.hash:=by
  intro s hs;obtain ⟨i,hi,rfl⟩:=List.mem_iff_getElem.1 hs;rw [List.length_drop] at hi;have:=hb (k+i) (by omega) (by omega);rw [lI] at this;have e2:X.getD (k+i) Sp.zero=(X.drop k)[i]'(by rw [List.length_drop];omega):=by simp [List.getD,show k+i<X.length by omega]
  rw [e2] at this;simp only at this;omega
 have g1:X.filter (fun s=>decide (at_≤s.hash))=X.drop k:=by
  conv=>lhs;rw [e]
  rw [List.filter_append,List.filter_eq_nil_iff.2 (fun s hs=>by have:=f1 s hs;simp;omega),List.filter_eq_self.2 (fun s hs=>by simpa using f2 s hs)]
  rfl
 have g2:X.filter (fun s=>decide (s.hash<at_))=X.take k:=by
  conv=>lhs;rw [e]
  rw [List.filter_append,List.filter_eq_self.2 (fun s hs=>by simpa using f1 s hs),List.filter_eq_nil_iff.2 (fun s hs=>by have:=f2 s hs;simp;omega)];simp
 rw [g1,g2]
 rfl
def AS (k:Nat):Int:=(yc (k % 256) (k / 256 % 256) (k / 65536 % 256) (k / 16777216):Nat)
def zS (X:List Sp) (key:Int) (L:List Int) (c:Int):Prop:=
 (¬ RgMay X∧L=[]∧c=6)∨(RgMay X∧(key<0∨4294967295<key)∧L=[]∧c=2)∨∃ k:Nat,RgMay X∧key=k∧k<4294967296∧L=gR X (AS k)∧c=0
theorem RgMay.ord {X:List Sp} (h:RgMay X):EK X:=by rw [h.2.2];exact oR _
end
end Go.Proofs.YtocbhafgjepnjaaGreat
