/- Texts of the row's proof. Conditions: none. -/
import Derived.Shelf.SlSortCmp.NoneTotal
import Derived.Test.YtneailjecbfljaaGreatDoorK07
namespace Go.Proofs.YtneailjecbfljaaGreatDoor
set_option maxRecDepth 100000
set_option maxHeartbeats 8000000
section
open Go.RowKit
theorem Q53 {p:Prop} (h:p:=by
 (try go_wp2_with fail);refine Zk hK fun hHeld=>?_;clear hK K;refine eO 12 ?_;refine Zd ?_;have hbD:Below wr.heap.size wr w2:=(aJ (n:=1) (Hq wr.heap.size wr)).trans (hb2.mono (by simp));have HB2:=Hp (HB.out.trans (hbD.mono HB.out.size));clear hbD hb2 a0 a1;go_wp2;go_ret2;exact ⟨i,_,rfl,HC.out,HB2.out⟩):p:=h
theorem Q79 {p:Prop} (h:p:=by
 subst heq;clear hge;go_wp2_with fail;refine Zr (fun _=>True) (fun hHeld=>?_) (by (try dsimp only);all_goals trivial);refine eo 0 ?_;refine eo 8 ?_;refine Zd ?_;go_wp2;go_ret2;exact ⟨X.length,_,rfl,HC.out,HB.out.drew⟩):p:=h
theorem Q88 {p:Prop} (h:p:=by
 subst hr;go_enter Tryz.func154,Tryz.ntmps154;go_wp2
 all_goals first|(go_ret;exact ⟨rfl,rfl⟩)|exact Zx):p:=h
theorem Q120 {p:Prop} (h:p:=by
 rw [rounds_succ];go_wp2
 all_goals first|(go_ret;exact ⟨rfl,rfl⟩)|exact Zx):p:=h
end
section
open Go.RowKit Go.Shelf Go.Sort
def dy (x y:Int):Int:=if x<y then -1 else if y<x then 1 else 0
def orI (x y:Int):Int:=if x=0 then y else x
theorem Bu (x y:Int) (w:World):Calls Tryz.prog 154 #[.int .i64 x,.int .i64 y] w fun e w'=>e=.returned (.int .i64 (dy x y))∧w'=w:=by
 obtain ⟨r,hr⟩:∃ r,r=dy x y:=⟨_,rfl⟩;rw [← hr];unfold dy at hr;rcases (show x<y∨(¬ x<y∧y<x)∨(¬ x<y∧¬ y<x) by omega) with h|⟨h,h2⟩|⟨h,h2⟩
 ·rw [if_pos h] at hr;exact Q88
 ·rw [if_neg h,if_pos h2] at hr;exact Q88
 ·rw [if_neg h,if_neg h2] at hr;exact Q88
theorem sJ (B:Nat) (x y:Int) (w:World) (h0:w.cell? ⟨B,0,none⟩=some (.int .i64 x)) (h1:w.cell? ⟨B,1,none⟩=some (.int .i64 y)) :
  Calls Tryz.prog 153 #[.slice (some ⟨B,0,none⟩) 2 2] w fun e w'=>e=.returned (.int .i64 (orI x y))∧w'=w:=by
 unfold orI
 by_cases hx:x=0
 ·subst hx;rw [if_pos rfl];by_cases hy:y=0
  ·subst hy;go_enter Tryz.func153,Tryz.ntmps153;go_wp2;refine wp_loop_rounds 3 ?_;rw [rounds_succ];go_wp2;rw [rounds_succ];go_wp2;exact Q120
  ·go_enter Tryz.func153,Tryz.ntmps153;go_wp2;refine wp_loop_rounds 2 ?_;rw [rounds_succ];go_wp2;exact Q120
 ·rw [if_neg hx];go_enter Tryz.func153,Tryz.ntmps153;go_wp2;refine wp_loop_rounds 1 ?_;exact Q120
theorem oA {B:Nat} {w w':World} (h:∃ q os',w'=Go.Sort.grow (w.drewN q) os') (hB:B≤w.heap.size):Below B w w':=by
 obtain ⟨q,os,rfl⟩:=h;refine ⟨(below_drewN (Hq B w) q).os,(below_drewN (Hq B w) q).tape,(below_drewN (Hq B w) q).output,?_,fun j hj=>?_⟩
 ·unfold Go.Sort.grow;have:=(below_drewN (Hq B w) q).size;simp
  try omega
 ·unfold Go.Sort.grow;have h1:=(below_drewN (Hq B w) q).size;have h2:=(below_drewN (Hq B w) q).block j hj;simp only;rw [Array.getElem?_append_left (by omega)];exact h2
def uh (x y:Tm):Int:=orI (dy x.at_ y.at_) (dy x.id y.id)
theorem Gn (x y:Tm):ltOf uh x y=mY x y:=by
 unfold ltOf uh orI dy mY;by_cases h1:x.at_<y.at_
 ·simp [h1]
 ·by_cases h2:y.at_<x.at_
  ·have h3:¬ x.at_=y.at_:=by omega
   simp [h1,h2,h3]
  ·have h3:x.at_=y.at_:=by omega
   by_cases h4:x.id<y.id
   ·simp [h3,h4]
   ·by_cases h5:y.id<x.id<;>simp [h3,h4,h5]
theorem Ft (x y:Tm) (W:World):Calls Tryz.prog 130 #[.agg (Tm.cells x).toArray,.agg (Tm.cells y).toArray] W fun e w'=>e=.returned (.int .i64 (uh x y))∧∃ q os',w'=Go.Sort.grow (W.drewN q) os':=by
 obtain ⟨x0,x1⟩:=x;obtain ⟨y0,y1⟩:=y;unfold Tm.cells;go_enter Tryz.func130,Tryz.ntmps130;go_wp2_with fail;refine Zr (fun w':World=>w'.cell? ⟨W.heap.size,0,none⟩=some (.int .i64 x0)∧w'.cell? ⟨W.heap.size,1,none⟩=some (.int .i64 x1)∧w'.cell? ⟨W.heap.size+1,0,none⟩=some (.int .i64 y0)∧w'.cell? ⟨W.heap.size+1,1,none⟩=some (.int .i64 y1)) (fun hHeld=>?_) (by (try dsimp only);((try obtain ⟨s0,s1,s2,s3⟩:=hHeld);refine ⟨?_,?_,?_,?_⟩<;>first|assumption|(exact aE _ ‹_›)|(simp;done)));refine eO 0 ?_;refine eO 5 ?_;refine Z1 4 (fun K hK=>?_);go_simp;(first|(go_at_call 154;refine (Bu _ _ _).mono ?_;rintro e w' ⟨rfl,rfl⟩;(try dsimp only))|(go_at_call 153;refine (sJ (W.heap.size+1+1) (dy x0 y0) (dy x1 y1) _ (by exact (ae (az (w:=World.alloc (World.alloc W _) _) (k:=W.heap.size+1+1) (.cells #[.int .i64 (dy x0 y0),.int .i64 (dy x1 y1)] 3) (by simp)) 0)) (by exact (ae (az (w:=World.alloc (World.alloc W _) _) (k:=W.heap.size+1+1) (.cells #[.int .i64 (dy x0 y0),.int .i64 (dy x1 y1)] 3) (by simp)) 1))).mono ?_;rintro e w' ⟨rfl,rfl⟩;(try dsimp only)));(try go_wp2_with fail);refine Zk hK (hS:=by (try dsimp only);((try obtain ⟨s0,s1,s2,s3⟩:=hHeld);refine ⟨?_,?_,?_,?_⟩<;>first|assumption|(exact aE _ ‹_›)|(simp;done))) fun hHeld=>?_;clear hK K;refine Z1 9 (fun K hK=>?_);go_simp;(first|(go_at_call 154;refine (Bu _ _ _).mono ?_;rintro e w' ⟨rfl,rfl⟩;(try dsimp only))|(go_at_call 153;refine (sJ (W.heap.size+1+1) (dy x0 y0) (dy x1 y1) _ (by exact (ae (az (w:=World.alloc (World.alloc W _) _) (k:=W.heap.size+1+1) (.cells #[.int .i64 (dy x0 y0),.int .i64 (dy x1 y1)] 3) (by simp)) 0)) (by exact (ae (az (w:=World.alloc (World.alloc W _) _) (k:=W.heap.size+1+1) (.cells #[.int .i64 (dy x0 y0),.int .i64 (dy x1 y1)] 3) (by simp)) 1))).mono ?_;rintro e w' ⟨rfl,rfl⟩;(try dsimp only)));(try go_wp2_with fail);refine Zk hK (hS:=by (try dsimp only);((try obtain ⟨s0,s1,s2,s3⟩:=hHeld);refine ⟨?_,?_,?_,?_⟩<;>first|assumption|(exact aE _ ‹_›)|(simp;done))) fun hHeld=>?_;clear hK K;refine Z1 10 (fun K hK=>?_);go_simp;refine Zk hK (hS:=by (try dsimp only);((try obtain ⟨s0,s1,s2,s3⟩:=hHeld);refine ⟨?_,?_,?_,?_⟩<;>first|assumption|(exact aE _ ‹_›)|(simp;done))) fun hHeld=>?_;clear hK K;refine Z1 11 (fun K hK=>?_);go_simp;(first|(go_at_call 154;refine (Bu _ _ _).mono ?_;rintro e w' ⟨rfl,rfl⟩;(try dsimp only))|(go_at_call 153;refine (sJ (W.heap.size+1+1) (dy x0 y0) (dy x1 y1) _ (by exact (ae (az (w:=World.alloc (World.alloc W _) _) (k:=W.heap.size+1+1) (.cells #[.int .i64 (dy x0 y0),.int .i64 (dy x1 y1)] 3) (by simp)) 0)) (by exact (ae (az (w:=World.alloc (World.alloc W _) _) (k:=W.heap.size+1+1) (.cells #[.int .i64 (dy x0 y0),.int .i64 (dy x1 y1)] 3) (by simp)) 1))).mono ?_;rintro e w' ⟨rfl,rfl⟩;(try dsimp only)));(try go_wp2_with fail);refine Zk hK (hS:=by (try dsimp only);((try obtain ⟨s0,s1,s2,s3⟩:=hHeld);refine ⟨?_,?_,?_,?_⟩<;>first|assumption|(exact aE _ ‹_›)|(simp;done))) fun hHeld=>?_;clear hK K;refine Zt 12 ?_;refine Zd ?_;go_wp2
 all_goals (go_ret;refine ⟨rfl,1,#[.cells #[.int .i64 x0,.int .i64 x1] 176,.cells #[.int .i64 y0,.int .i64 y1] 176,.cells #[.int .i64 (dy x0 y0),.int .i64 (dy x1 y1)] 3],?_⟩;rw [alloc_eq_grow,alloc_eq_grow,alloc_eq_grow,grow_grow,grow_grow];rfl)
def cutT (X:List Tm) (x:Tm) (k:Nat):Prop:=k≤X.length∧(∀ i,i<k→mY (X.getD i Tm.zero) x=true)∧(∀ i,k≤i→i<X.length→mY (X.getD i Tm.zero) x=false)
theorem nD {X:List Tm} (h:iR X) {i j:Nat} (hij:i≤j) (hj:j<X.length):gT (X.getD i Tm.zero) (X.getD j Tm.zero)=true:=by
 have e1:X.getD i Tm.zero=X[i]:=by simp [List.getD,show i<X.length by omega]
 have e2:X.getD j Tm.zero=X[j]:=by simp [List.getD,hj]
 rw [e1,e2];rcases Nat.lt_or_ge i j with h'|h'
 ·exact List.pairwise_iff_getElem.1 h i j (by omega) hj h'
 ·have:i=j:=by omega
  subst this;unfold gT;rw [lF]
  rfl
theorem uJ {a b x:Tm} (h:gT a b=true) (hb:mY b x=true):mY a x=true:=by rw [j8] at h;rw [tj] at hb ⊢;omega
theorem ti {a b x:Tm} (h:gT a b=true) (ha:mY a x=false):mY b x=false:=by rw [j8] at h;rw [th] at ha ⊢;omega
theorem tT {a b:Tm}:(uh a b<0)↔mY a b=true:=by rw [← Gn];unfold ltOf;simp
theorem Fu (x y:Tm) (w:World):Calls Tryz.prog 130 #[.agg #[.int .i64 x.at_,.int .i64 x.id],.agg #[.int .i64 y.at_,.int .i64 y.id]] w fun e w'=>e=.returned (.int .i64 (uh x y))∧Below w.heap.size w w':=
 (Ft x y w).mono fun _ _ ⟨h1,h2⟩=>⟨h1,oA h2 (Hz _)⟩
theorem mt (x y:Tm) (r:Int) (hr:r=uh x y) (w:World):Calls Tryz.prog 130 #[.agg #[.int .i64 x.at_,.int .i64 x.id],.agg #[.int .i64 y.at_,.int .i64 y.id]] w fun e w'=>e=.returned (.int .i64 r)∧Below w.heap.size w w':=by
 rw [hr];exact Fu x y w
def GU (w:World) (X:List Tm) (x:Tm) (e:Ending) (w':World):Prop:=∃ (k:Nat) (f:Bool),e=.returned (.tuple #[.int .i64 (k:Int),.bool f])∧cutT X x k∧Below w.heap.size w w'
theorem bsTm (v:Value) (X:List Tm) (x:Tm) (w:World) (r:aI w 2 v (X.map Tm.cells)) (ho:iR X) (hn:X.length≤1000000000000000):Calls Tryz.prog 146 #[v,.agg #[.int .i64 x.at_,.int .i64 x.id],.func (.func 130) #[] #[]] w (GU w X x):=by
 obtain ⟨a,c,rfl,l1,m1,n1,p1⟩:=aK Tm.zero r;have P1:=Hp p1;have HO:=Hp ho;unfold maxLen at m1;obtain ⟨x0,x1⟩:=x;have eg:∀ args w,(callFunc 130 args).run Tryz.prog w=.ok (.enter 130 args) w:=enters_of Tryz.func130 (by kernel_rfl) rfl;clear r p1 ho;go_enter Tryz.func146,Tryz.ntmps146;go_wp2;go_loopw [9,10] (fun a b wr=>∃ i j:Nat,a=.int .i64 i∧b=.int .i64 j∧i≤j∧j≤X.length∧(∀ k,k<i→mY (X.getD k Tm.zero) ⟨x0,x1⟩=true)∧(∀ k,j≤k→k<X.length→mY (X.getD k Tm.zero) ⟨x0,x1⟩=false)∧Below w.heap.size w wr∧wr.cell? ⟨w.heap.size,0,none⟩=some (.int .i64 x0)∧wr.cell? ⟨w.heap.size,1,none⟩=some (.int .i64 x1)) (fun a b _=>(intOf b - intOf a).toNat)
 case atStart=>exact ⟨0,X.length,rfl,rfl,I0 _,Hz _,fun k hk=>by omega,fun k h1 h2=>by omega,(Hq _ _).alloc (Hz _) _,by go_simp,by go_simp⟩
 case round=>
  obtain ⟨i,j,rfl,rfl,hij,hj,h1,h2,hb,t0,t1⟩:=hrel;have HB:=Hp hb;have H1:=Hp h1;have H2:=Hp h2;have hz:=bR t0;clear hb h1 h2;rcases (show i<j∨i=j by omega) with hlt|rfl
  ·have hlt':(i:Int)<(j:Int):=by omega
   obtain ⟨h,hh⟩:∃ h,h=(i+j) / 2:=⟨_,rfl⟩;have hh1:i≤h:=by omega
   have hh2:h<j:=by omega
   have hh3:((i:Int)+(j:Int)) / 2=(h:Int):=by omega
   have hh4:h<X.length:=by omega
   obtain ⟨b0,o0,rfl,hb0,q1⟩:=P1.out (by intro h';rw [h'] at hh4;simp at hh4);obtain ⟨s,hs⟩:∃ s,s=X.getD h Tm.zero:=⟨_,rfl⟩;have a0:=q1 h 0 hh4 (by omega);have a1:=q1 h 1 hh4 (by omega);rw [← hs] at a0 a1;have HS:=Hp hs;obtain ⟨s0,s1⟩:=s;simp only [Tm.cells,I1,I2,Nat.add_zero] at a0 a1;have a0:=ah HB.out a0 hb0;have a1:=ah HB.out a1 hb0;have i0:(0:Int)≤(h:Int):=by omega
   have i2:(0:Int)≤(i:Int)+(j:Int):=by omega
   have i3:(i:Int)+(j:Int)≤4000000000000000:=by omega
   have i1:(h:Int)<(X.length:Int):=by omega
   clear hs q1 hh;obtain ⟨r,hr⟩:∃ r,r=uh ⟨s0,s1⟩ ⟨x0,x1⟩:=⟨_,rfl⟩;have HR:=Hp hr;clear hr;by_cases hsp:mY ⟨s0,s1⟩ ⟨x0,x1⟩=true
   ·have hneg:r<0:=by rw [HR.out];exact tT.2 hsp
    have HSP:=Hp hsp;clear hsp;go_wp2_with fail;refine Zr (fun w'=>w'.cell? ⟨b0,o0+h*2,none⟩=some (.int .i64 s0)∧w'.cell? ⟨b0,o0+h*2+1,none⟩=some (.int .i64 s1)∧w'.cell? ⟨w.heap.size,0,none⟩=some (.int .i64 x0)∧w'.cell? ⟨w.heap.size,1,none⟩=some (.int .i64 x1)) (fun hHeld=>?_);refine eO 0 ?_;refine df 4 ?_;refine Z1 6 (fun K hK=>?_);go_simp;(go_at_call 130;refine (mt ⟨s0,s1⟩ ⟨x0,x1⟩ r HR.out _).mono ?_;rintro e w2 ⟨rfl,hb2⟩);(try go_wp2_with fail);refine Zk hK fun hHeld=>?_;clear hK K;refine Zt 7 ?_;refine Zd ?_;have hbD:Below wr.heap.size wr w2:=(aJ (n:=1) (Hq wr.heap.size wr)).trans (hb2.mono (by simp));have t0:=ah hbD t0 hz;have t1:=ah hbD t1 hz;have HB2:=Hp (HB.out.trans (hbD.mono HB.out.size));clear hbD hb2 a0 a1;go_wp2;go_roundw
    case rel=>
     refine ⟨h+1,j,by go_num,rfl,by omega,hj,fun k hk=>?_,H2.out,HB2.out,t0,t1⟩;exact uJ (nD HO.out (show k≤h by omega) hh4) (by rw [← HS.out];exact HSP.out)
    case measure=>simp [intOf];omega
   ·have hneg:¬ r<0:=by rw [HR.out];exact fun h=>hsp (tT.1 h)
    have HSP:=Hp (show mY ⟨s0,s1⟩ ⟨x0,x1⟩=false by simpa using hsp);clear hsp;go_wp2_with fail;refine Zr (fun w'=>w'.cell? ⟨b0,o0+h*2,none⟩=some (.int .i64 s0)∧w'.cell? ⟨b0,o0+h*2+1,none⟩=some (.int .i64 s1)∧w'.cell? ⟨w.heap.size,0,none⟩=some (.int .i64 x0)∧w'.cell? ⟨w.heap.size,1,none⟩=some (.int .i64 x1)) (fun hHeld=>?_);refine eO 0 ?_;refine df 4 ?_;refine Z1 6 (fun K hK=>?_);go_simp;(go_at_call 130;refine (mt ⟨s0,s1⟩ ⟨x0,x1⟩ r HR.out _).mono ?_;rintro e w2 ⟨rfl,hb2⟩);(try go_wp2_with fail);refine Zk hK fun hHeld=>?_;clear hK K;refine Zt 7 ?_;refine Zd ?_;have hbD:Below wr.heap.size wr w2:=(aJ (n:=1) (Hq wr.heap.size wr)).trans (hb2.mono (by simp));have t0:=ah hbD t0 hz;have t1:=ah hbD t1 hz;have HB2:=Hp (HB.out.trans (hbD.mono HB.out.size));clear hbD hb2 a0 a1;go_wp2;go_roundw
    case rel=>
     refine ⟨i,h,rfl,rfl,hh1,by omega,H1.out,fun k h3 h4=>?_,HB2.out,t0,t1⟩;exact ti (nD HO.out h3 h4) (by rw [← HS.out];exact HSP.out)
    case measure=>simp [intOf];omega
  ·have HC:=Hp (show cutT X ⟨x0,x1⟩ i from ⟨hj,H1.out,H2.out⟩);have hge:¬ (i:Int)<(i:Int):=by omega
   rcases (show i<X.length∨i=X.length by omega) with hlt|heq
   ·have hlt':(i:Int)<(X.length:Int):=by omega
    obtain ⟨b0,o0,rfl,hb0,q1⟩:=P1.out (by intro h';rw [h'] at hlt;simp at hlt);obtain ⟨s,hs⟩:∃ s,s=X.getD i Tm.zero:=⟨_,rfl⟩;have a0:=q1 i 0 hlt (by omega);have a1:=q1 i 1 hlt (by omega);rw [← hs] at a0 a1;obtain ⟨s0,s1⟩:=s;simp only [Tm.cells,I1,I2,Nat.add_zero] at a0 a1;have a0:=ah HB.out a0 hb0;have a1:=ah HB.out a1 hb0;have i0:(0:Int)≤(i:Int):=by omega
    obtain ⟨r,hr⟩:∃ r,r=uh ⟨s0,s1⟩ ⟨x0,x1⟩:=⟨_,rfl⟩;have HR:=Hp hr;clear hs q1 hr;go_wp2_with fail;refine Zr (fun w'=>w'.cell? ⟨b0,o0+i*2,none⟩=some (.int .i64 s0)∧w'.cell? ⟨b0,o0+i*2+1,none⟩=some (.int .i64 s1)∧w'.cell? ⟨w.heap.size,0,none⟩=some (.int .i64 x0)∧w'.cell? ⟨w.heap.size,1,none⟩=some (.int .i64 x1)) (fun hHeld=>?_);refine eo 0 ?_;refine df 8 ?_;refine Zt 10 ?_;refine Z1 11 (fun K hK=>?_);go_simp;(go_at_call 130;refine (mt ⟨s0,s1⟩ ⟨x0,x1⟩ r HR.out _).mono ?_;rintro e w2 ⟨rfl,hb2⟩);exact Q53
   ·exact Q79
theorem CL {X:List Tm} (h:∀ k,k+1<X.length→mY (X.getD (k+1) Tm.zero) (X.getD k Tm.zero)=false):iR X:=by
 have key:∀ j i,i≤j→j<X.length→gT (X.getD i Tm.zero) (X.getD j Tm.zero)=true:=by
  intro j
  induction j with
  | zero=>
   intro i hi hj;obtain rfl:i=0:=by omega
   unfold gT;rw [lF]
   rfl
  | succ j ih=>
   intro i hi hj;by_cases h':i=j+1
   ·subst h';unfold gT;rw [lF]
    rfl
   ·refine pz _ _ _ (ih i (by omega) (by omega)) ?_;unfold gT;rw [h j hj]
    rfl
 refine List.pairwise_iff_getElem.2 fun i j hi hj hij=>?_;have:=key j i (by omega) hj;simpa [List.getD,hi,hj] using this
theorem Dj (v:Value) (X:List Tm) (w:World) (r0:aI w 2 v (X.map Tm.cells)) (hn:X.length≤1000000000000000) (r:Bool) (hr:(iR X∧r=true)∨(¬ iR X∧r=false)):Calls Tryz.prog 129 #[v,.func (.func 130) #[] #[]] w fun e w'=>e=.returned (.bool r)∧Below w.heap.size w w':=by
 obtain ⟨a,c,rfl,l1,m1,n1,p1⟩:=aK Tm.zero r0;have HR:=Hp hr;have eg:∀ args w,(callFunc 130 args).run Tryz.prog w=.ok (.enter 130 args) w:=enters_of Tryz.func130 (by kernel_rfl) rfl;unfold maxLen at m1;clear r0 hr;by_cases hX:X=[]
 ·obtain rfl:r=true:=by
   rcases HR.out with ⟨_,h⟩|⟨h,_⟩
   ·exact h
   ·exact absurd (by rw [hX];exact List.Pairwise.nil) h
  subst hX;clear HR p1;go_enter Tryz.func129,Tryz.ntmps129;go_wp2;refine wp_loop_rounds 1 ?_;rw [rounds_succ];go_wp2
  all_goals first|(go_ret;exact ⟨rfl,Zb⟩)|exact Zx
 ·obtain ⟨b0,o0,rfl,hb0,q1⟩:=p1 hX;have Q1:=Hp q1;obtain ⟨n,hl⟩:∃ n,X.length=n+1:=⟨X.length - 1,by have:=List.length_pos_iff.2 hX;omega⟩;rw [hl];have HL:=Hp hl;have hl1:n+1≤X.length:=by omega
  have hl2:X.length≤n+1:=by omega
  clear p1 q1 hl hX;go_enter Tryz.func129,Tryz.ntmps129;go_wp2;go_loopw [5] (fun i wr=>∃ k:Nat,k≤n∧i=.int .i64 k∧(∀ m,k≤m→m+1<X.length→mY (X.getD (m+1) Tm.zero) (X.getD m Tm.zero)=false)∧Below w.heap.size w wr) (fun i _=>(intOf i).toNat)
  case atStart=>exact ⟨n,Hz _,by go_num,fun m h1 h2=>by omega,Hq _ _⟩
  case round=>
   obtain ⟨k,hk,rfl,hall,hb⟩:=hrel;have HA:=Hp hall;have HB:=Hp hb;rcases (show k=0∨∃ q,k=q+1 by rcases k with _|q;exact Or.inl rfl;exact Or.inr ⟨q,rfl⟩) with hk0|⟨q,rfl⟩
   ·obtain rfl:r=true:=by
     rcases HR.out with ⟨_,h⟩|⟨h,_⟩
     ·exact h
     ·exact absurd (CL fun m hm=>HA.out m (by omega) hm) h
    clear HR hb hall;subst hk0;go_wp2
    all_goals first|(go_ret;exact ⟨rfl,HB.out⟩)|exact Zx
   ·obtain ⟨s,hs⟩:∃ s,s=X.getD (q+1) Tm.zero:=⟨_,rfl⟩;obtain ⟨t,ht⟩:∃ t,t=X.getD q Tm.zero:=⟨_,rfl⟩;have a0:=Q1.out (q+1) 0 (by omega) (by omega);have a1:=Q1.out (q+1) 1 (by omega) (by omega);have d0:=Q1.out q 0 (by omega) (by omega);have d1:=Q1.out q 1 (by omega) (by omega);rw [← hs] at a0 a1;rw [← ht] at d0 d1;have HS:=Hp hs;have HT:=Hp ht;obtain ⟨s0,s1⟩:=s;obtain ⟨t0,t1⟩:=t;simp only [Tm.cells,I1,I2,Nat.add_zero] at a0 a1 d0 d1;have a0:=ah hb a0 hb0;have a1:=ah hb a1 hb0;have d0:=ah hb d0 hb0;have d1:=ah hb d1 hb0;have hbw:=hb.size;obtain ⟨x,hx⟩:∃ x,x=uh ⟨s0,s1⟩ ⟨t0,t1⟩:=⟨_,rfl⟩;have HX:=Hp hx;have hq1:(0:Int)<(q:Int)+1:=by omega
    have hq2:(q:Int)+1<(n:Int)+1:=by omega
    have hq3:(q:Int)<(n:Int)+1:=by omega
    have hq0:(0:Int)≤(q:Int):=by omega
    have hq4:(0:Int)≤(q:Int)+1:=by omega
    have hq5:((q:Int)+1).toNat=q+1:=by omega
    have hq6:IntKind.i64.wrap (q:Int)=(q:Int):=Ir _ (by omega);clear hs ht hb hall hx;by_cases hneg:x<0
    ·obtain rfl:r=false:=by
      rcases HR.out with ⟨h,_⟩|⟨_,h⟩
      ·have h1:mY ⟨s0,s1⟩ ⟨t0,t1⟩=true:=tT.1 (by rw [← HX.out];exact hneg);have h2:=nD h (show q≤q+1 by omega) (by omega);rw [← HS.out,← HT.out] at h2;unfold gT at h2;rw [h1] at h2
       cases h2
      ·exact h
     go_wp2_with fail;refine Zr (fun w'=>w'.cell? ⟨b0,o0+(q+1)*2,none⟩=some (.int .i64 s0)∧w'.cell? ⟨b0,o0+(q+1)*2+1,none⟩=some (.int .i64 s1)∧w'.cell? ⟨b0,o0+q*2,none⟩=some (.int .i64 t0)∧w'.cell? ⟨b0,o0+q*2+1,none⟩=some (.int .i64 t1)) (fun hHeld=>?_);refine eo 0 ?_;refine df 8 ?_;refine Z1 10 (fun K hK=>?_);go_simp;(go_at_call 130;refine (mt ⟨s0,s1⟩ ⟨t0,t1⟩ x HX.out _).mono ?_;rintro e w2 ⟨rfl,hb2⟩);(try go_wp2_with fail);refine Zk hK fun hHeld=>?_;clear hK K;refine Zt 11 ?_;refine Zd ?_;have HB2:=Hp (HB.out.trans (((aJ (n:=1) (Hq wr.heap.size wr)).trans (hb2.mono (by simp))).mono HB.out.size));clear hb2 a0 a1 d0 d1;go_wp2
     all_goals first|(go_ret;exact ⟨rfl,HB2.out⟩)|exact Zx
    ·have HN:=Hp (show mY ⟨s0,s1⟩ ⟨t0,t1⟩=false by
      cases h:mY ⟨s0,s1⟩ ⟨t0,t1⟩ with
      | false=>rfl
      | true=>exact absurd (by rw [HX.out];exact tT.2 h) hneg)
     go_wp2_with fail;refine Zr (fun w'=>w'.cell? ⟨b0,o0+(q+1)*2,none⟩=some (.int .i64 s0)∧w'.cell? ⟨b0,o0+(q+1)*2+1,none⟩=some (.int .i64 s1)∧w'.cell? ⟨b0,o0+q*2,none⟩=some (.int .i64 t0)∧w'.cell? ⟨b0,o0+q*2+1,none⟩=some (.int .i64 t1)) (fun hHeld=>?_);refine eo 0 ?_;refine df 8 ?_;refine Z1 10 (fun K hK=>?_);go_simp;(go_at_call 130;refine (mt ⟨s0,s1⟩ ⟨t0,t1⟩ x HX.out _).mono ?_;rintro e w2 ⟨rfl,hb2⟩);(try go_wp2_with fail);refine Zk hK fun hHeld=>?_;clear hK K;refine Zt 11 ?_;refine Zd ?_;have HB2:=Hp (HB.out.trans (((aJ (n:=1) (Hq wr.heap.size wr)).trans (hb2.mono (by simp))).mono HB.out.size));clear hb2 a0 a1 d0 d1;go_wp2;go_roundw
     case rel=>
      refine ⟨q,by omega,by go_num,fun m h1 h2=>?_,HB2.out⟩;rcases (show m=q∨q+1≤m by omega) with rfl|h3
      ·rw [← HS.out,← HT.out];exact HN.out
      ·exact HA.out m h3 h2
     case measure=>simp [intOf]
def oP (x y:Sp):Int:=orI (dy x.hash y.hash) (dy x.backend y.backend)
theorem kU (x y:Sp):ltOf oP x y=rP x y:=by
 unfold ltOf oP orI dy rP;by_cases h1:x.hash<y.hash
 ·simp [h1]
 ·by_cases h2:y.hash<x.hash
  ·have h3:¬ x.hash=y.hash:=by omega
   simp [h1,h2,h3]
  ·have h3:x.hash=y.hash:=by omega
   by_cases h4:x.backend<y.backend
   ·simp [h3,h4]
   ·by_cases h5:y.backend<x.backend<;>simp [h3,h4,h5]
theorem zn (x y:Sp) (W:World):Calls Tryz.prog 118 #[.agg (Sp.cells x).toArray,.agg (Sp.cells y).toArray] W fun e w'=>e=.returned (.int .i64 (oP x y))∧∃ q os',w'=Go.Sort.grow (W.drewN q) os':=by
 obtain ⟨x0,x1⟩:=x;obtain ⟨y0,y1⟩:=y;unfold Sp.cells;go_enter Tryz.func118,Tryz.ntmps118;go_wp2_with fail;refine Zr (fun w':World=>w'.cell? ⟨W.heap.size,0,none⟩=some (.int .i64 x0)∧w'.cell? ⟨W.heap.size,1,none⟩=some (.int .i64 x1)∧w'.cell? ⟨W.heap.size+1,0,none⟩=some (.int .i64 y0)∧w'.cell? ⟨W.heap.size+1,1,none⟩=some (.int .i64 y1)) (fun hHeld=>?_) (by (try dsimp only);((try obtain ⟨s0,s1,s2,s3⟩:=hHeld);refine ⟨?_,?_,?_,?_⟩<;>first|assumption|(exact aE _ ‹_›)|(simp;done)));refine eO 0 ?_;refine eO 5 ?_;refine Z1 4 (fun K hK=>?_);go_simp;(first|(go_at_call 154;refine (Bu _ _ _).mono ?_;rintro e w' ⟨rfl,rfl⟩;(try dsimp only))|(go_at_call 153;refine (sJ (W.heap.size+1+1) (dy x0 y0) (dy x1 y1) _ (by exact (ae (az (w:=World.alloc (World.alloc W _) _) (k:=W.heap.size+1+1) (.cells #[.int .i64 (dy x0 y0),.int .i64 (dy x1 y1)] 3) (by simp)) 0)) (by exact (ae (az (w:=World.alloc (World.alloc W _) _) (k:=W.heap.size+1+1) (.cells #[.int .i64 (dy x0 y0),.int .i64 (dy x1 y1)] 3) (by simp)) 1))).mono ?_;rintro e w' ⟨rfl,rfl⟩;(try dsimp only)));(try go_wp2_with fail);refine Zk hK (hS:=by (try dsimp only);((try obtain ⟨s0,s1,s2,s3⟩:=hHeld);refine ⟨?_,?_,?_,?_⟩<;>first|assumption|(exact aE _ ‹_›)|(simp;done))) fun hHeld=>?_;clear hK K;refine Z1 9 (fun K hK=>?_);go_simp;(first|(go_at_call 154;refine (Bu _ _ _).mono ?_;rintro e w' ⟨rfl,rfl⟩;(try dsimp only))|(go_at_call 153;refine (sJ (W.heap.size+1+1) (dy x0 y0) (dy x1 y1) _ (by exact (ae (az (w:=World.alloc (World.alloc W _) _) (k:=W.heap.size+1+1) (.cells #[.int .i64 (dy x0 y0),.int .i64 (dy x1 y1)] 3) (by simp)) 0)) (by exact (ae (az (w:=World.alloc (World.alloc W _) _) (k:=W.heap.size+1+1) (.cells #[.int .i64 (dy x0 y0),.int .i64 (dy x1 y1)] 3) (by simp)) 1))).mono ?_;rintro e w' ⟨rfl,rfl⟩;(try dsimp only)));(try go_wp2_with fail);refine Zk hK (hS:=by (try dsimp only);((try obtain ⟨s0,s1,s2,s3⟩:=hHeld);refine ⟨?_,?_,?_,?_⟩<;>first|assumption|(exact aE _ ‹_›)|(simp;done))) fun hHeld=>?_;clear hK K;refine Z1 10 (fun K hK=>?_);go_simp;refine Zk hK (hS:=by (try dsimp only);((try obtain ⟨s0,s1,s2,s3⟩:=hHeld);refine ⟨?_,?_,?_,?_⟩<;>first|assumption|(exact aE _ ‹_›)|(simp;done))) fun hHeld=>?_;clear hK K;refine Z1 11 (fun K hK=>?_);go_simp;(first|(go_at_call 154;refine (Bu _ _ _).mono ?_;rintro e w' ⟨rfl,rfl⟩;(try dsimp only))|(go_at_call 153;refine (sJ (W.heap.size+1+1) (dy x0 y0) (dy x1 y1) _ (by exact (ae (az (w:=World.alloc (World.alloc W _) _) (k:=W.heap.size+1+1) (.cells #[.int .i64 (dy x0 y0),.int .i64 (dy x1 y1)] 3) (by simp)) 0)) (by exact (ae (az (w:=World.alloc (World.alloc W _) _) (k:=W.heap.size+1+1) (.cells #[.int .i64 (dy x0 y0),.int .i64 (dy x1 y1)] 3) (by simp)) 1))).mono ?_;rintro e w' ⟨rfl,rfl⟩;(try dsimp only)));(try go_wp2_with fail);refine Zk hK (hS:=by (try dsimp only);((try obtain ⟨s0,s1,s2,s3⟩:=hHeld);refine ⟨?_,?_,?_,?_⟩<;>first|assumption|(exact aE _ ‹_›)|(simp;done))) fun hHeld=>?_;clear hK K;refine Zt 12 ?_;refine Zd ?_;go_wp2
 all_goals (go_ret;refine ⟨rfl,1,#[.cells #[.int .i64 x0,.int .i64 x1] 171,.cells #[.int .i64 y0,.int .i64 y1] 171,.cells #[.int .i64 (dy x0 y0),.int .i64 (dy x1 y1)] 3],?_⟩;rw [alloc_eq_grow,alloc_eq_grow,alloc_eq_grow,grow_grow,grow_grow];rfl)
def sI (X:List Sp) (x:Sp) (k:Nat):Prop:=k≤X.length∧(∀ i,i<k→rP (X.getD i Sp.zero) x=true)∧(∀ i,k≤i→i<X.length→rP (X.getD i Sp.zero) x=false)
theorem vx {X:List Sp} (h:Ep X) {i j:Nat} (hij:i≤j) (hj:j<X.length):jb (X.getD i Sp.zero) (X.getD j Sp.zero)=true:=by
 have e1:X.getD i Sp.zero=X[i]:=by simp [List.getD,show i<X.length by omega]
 have e2:X.getD j Sp.zero=X[j]:=by simp [List.getD,hj]
 rw [e1,e2];rcases Nat.lt_or_ge i j with h'|h'
 ·exact List.pairwise_iff_getElem.1 h i j (by omega) hj h'
 ·have:i=j:=by omega
  subst this;unfold jb;rw [xI]
  rfl
theorem uQ {a b x:Sp} (h:jb a b=true) (hb:rP b x=true):rP a x=true:=by rw [k9] at h;rw [oY] at hb ⊢;omega
theorem ts {a b x:Sp} (h:jb a b=true) (ha:rP a x=false):rP b x=false:=by rw [k9] at h;rw [lJ] at ha ⊢;omega
theorem GX {a b:Sp}:(oP a b<0)↔rP a b=true:=by rw [← kU];unfold ltOf;simp
theorem orderB (x y:Sp) (w:World):Calls Tryz.prog 118 #[.agg #[.int .i64 x.hash,.int .i64 x.backend],.agg #[.int .i64 y.hash,.int .i64 y.backend]] w fun e w'=>e=.returned (.int .i64 (oP x y))∧Below w.heap.size w w':=
 (zn x y w).mono fun _ _ ⟨h1,h2⟩=>⟨h1,oA h2 (Hz _)⟩
theorem xX (x y:Sp) (r:Int) (hr:r=oP x y) (w:World):Calls Tryz.prog 118 #[.agg #[.int .i64 x.hash,.int .i64 x.backend],.agg #[.int .i64 y.hash,.int .i64 y.backend]] w fun e w'=>e=.returned (.int .i64 r)∧Below w.heap.size w w':=by
 rw [hr];exact orderB x y w
def BsPost (w:World) (X:List Sp) (x:Sp) (e:Ending) (w':World):Prop:=∃ (k:Nat) (f:Bool),e=.returned (.tuple #[.int .i64 (k:Int),.bool f])∧sI X x k∧Below w.heap.size w w'
theorem bsSp (v:Value) (X:List Sp) (x:Sp) (w:World) (r:aI w 2 v (X.map Sp.cells)) (ho:Ep X) (hn:X.length≤1000000000000000):Calls Tryz.prog 158 #[v,.agg #[.int .i64 x.hash,.int .i64 x.backend],.func (.func 118) #[] #[]] w (BsPost w X x):=by
 obtain ⟨a,c,rfl,l1,m1,n1,p1⟩:=aK Sp.zero r;have P1:=Hp p1;have HO:=Hp ho;unfold maxLen at m1;obtain ⟨x0,x1⟩:=x;have eg:∀ args w,(callFunc 118 args).run Tryz.prog w=.ok (.enter 118 args) w:=enters_of Tryz.func118 (by kernel_rfl) rfl;clear r p1 ho;go_enter Tryz.func158,Tryz.ntmps158;go_wp2;go_loopw [9,10] (fun a b wr=>∃ i j:Nat,a=.int .i64 i∧b=.int .i64 j∧i≤j∧j≤X.length∧(∀ k,k<i→rP (X.getD k Sp.zero) ⟨x0,x1⟩=true)∧(∀ k,j≤k→k<X.length→rP (X.getD k Sp.zero) ⟨x0,x1⟩=false)∧Below w.heap.size w wr∧wr.cell? ⟨w.heap.size,0,none⟩=some (.int .i64 x0)∧wr.cell? ⟨w.heap.size,1,none⟩=some (.int .i64 x1)) (fun a b _=>(intOf b - intOf a).toNat)
 case atStart=>exact ⟨0,X.length,rfl,rfl,I0 _,Hz _,fun k hk=>by omega,fun k h1 h2=>by omega,(Hq _ _).alloc (Hz _) _,by go_simp,by go_simp⟩
 case round=>
  obtain ⟨i,j,rfl,rfl,hij,hj,h1,h2,hb,t0,t1⟩:=hrel;have HB:=Hp hb;have H1:=Hp h1;have H2:=Hp h2;have hz:=bR t0;clear hb h1 h2;rcases (show i<j∨i=j by omega) with hlt|rfl
  ·have hlt':(i:Int)<(j:Int):=by omega
   obtain ⟨h,hh⟩:∃ h,h=(i+j) / 2:=⟨_,rfl⟩;have hh1:i≤h:=by omega
   have hh2:h<j:=by omega
   have hh3:((i:Int)+(j:Int)) / 2=(h:Int):=by omega
   have hh4:h<X.length:=by omega
   obtain ⟨b0,o0,rfl,hb0,q1⟩:=P1.out (by intro h';rw [h'] at hh4;simp at hh4);obtain ⟨s,hs⟩:∃ s,s=X.getD h Sp.zero:=⟨_,rfl⟩;have a0:=q1 h 0 hh4 (by omega);have a1:=q1 h 1 hh4 (by omega);rw [← hs] at a0 a1;have HS:=Hp hs;obtain ⟨s0,s1⟩:=s;simp only [Sp.cells,I1,I2,Nat.add_zero] at a0 a1;have a0:=ah HB.out a0 hb0;have a1:=ah HB.out a1 hb0;have i0:(0:Int)≤(h:Int):=by omega
   have i2:(0:Int)≤(i:Int)+(j:Int):=by omega
   have i3:(i:Int)+(j:Int)≤4000000000000000:=by omega
   have i1:(h:Int)<(X.length:Int):=by omega
   clear hs q1 hh;obtain ⟨r,hr⟩:∃ r,r=oP ⟨s0,s1⟩ ⟨x0,x1⟩:=⟨_,rfl⟩;have HR:=Hp hr;clear hr;by_cases hsp:rP ⟨s0,s1⟩ ⟨x0,x1⟩=true
   ·have hneg:r<0:=by rw [HR.out];exact GX.2 hsp
    have HSP:=Hp hsp;clear hsp;go_wp2_with fail;refine Zr (fun w'=>w'.cell? ⟨b0,o0+h*2,none⟩=some (.int .i64 s0)∧w'.cell? ⟨b0,o0+h*2+1,none⟩=some (.int .i64 s1)∧w'.cell? ⟨w.heap.size,0,none⟩=some (.int .i64 x0)∧w'.cell? ⟨w.heap.size,1,none⟩=some (.int .i64 x1)) (fun hHeld=>?_);refine eO 0 ?_;refine df 4 ?_;refine Z1 6 (fun K hK=>?_);go_simp;(go_at_call 118;refine (xX ⟨s0,s1⟩ ⟨x0,x1⟩ r HR.out _).mono ?_;rintro e w2 ⟨rfl,hb2⟩);(try go_wp2_with fail);refine Zk hK fun hHeld=>?_;clear hK K;refine Zt 7 ?_;refine Zd ?_;have hbD:Below wr.heap.size wr w2:=(aJ (n:=1) (Hq wr.heap.size wr)).trans (hb2.mono (by simp));have t0:=ah hbD t0 hz;have t1:=ah hbD t1 hz;have HB2:=Hp (HB.out.trans (hbD.mono HB.out.size));clear hbD hb2 a0 a1;go_wp2;go_roundw
    case rel=>
     refine ⟨h+1,j,by go_num,rfl,by omega,hj,fun k hk=>?_,H2.out,HB2.out,t0,t1⟩;exact uQ (vx HO.out (show k≤h by omega) hh4) (by rw [← HS.out];exact HSP.out)
    case measure=>simp [intOf];omega
   ·have hneg:¬ r<0:=by rw [HR.out];exact fun h=>hsp (GX.1 h)
    have HSP:=Hp (show rP ⟨s0,s1⟩ ⟨x0,x1⟩=false by simpa using hsp);clear hsp;go_wp2_with fail;refine Zr (fun w'=>w'.cell? ⟨b0,o0+h*2,none⟩=some (.int .i64 s0)∧w'.cell? ⟨b0,o0+h*2+1,none⟩=some (.int .i64 s1)∧w'.cell? ⟨w.heap.size,0,none⟩=some (.int .i64 x0)∧w'.cell? ⟨w.heap.size,1,none⟩=some (.int .i64 x1)) (fun hHeld=>?_);refine eO 0 ?_;refine df 4 ?_;refine Z1 6 (fun K hK=>?_);go_simp;(go_at_call 118;refine (xX ⟨s0,s1⟩ ⟨x0,x1⟩ r HR.out _).mono ?_;rintro e w2 ⟨rfl,hb2⟩);(try go_wp2_with fail);refine Zk hK fun hHeld=>?_;clear hK K;refine Zt 7 ?_;refine Zd ?_;have hbD:Below wr.heap.size wr w2:=(aJ (n:=1) (Hq wr.heap.size wr)).trans (hb2.mono (by simp));have t0:=ah hbD t0 hz;have t1:=ah hbD t1 hz;have HB2:=Hp (HB.out.trans (hbD.mono HB.out.size));clear hbD hb2 a0 a1;go_wp2;go_roundw
    case rel=>
     refine ⟨i,h,rfl,rfl,hh1,by omega,H1.out,fun k h3 h4=>?_,HB2.out,t0,t1⟩;exact ts (vx HO.out h3 h4) (by rw [← HS.out];exact HSP.out)
    case measure=>simp [intOf];omega
  ·have HC:=Hp (show sI X ⟨x0,x1⟩ i from ⟨hj,H1.out,H2.out⟩);have hge:¬ (i:Int)<(i:Int):=by omega
   rcases (show i<X.length∨i=X.length by omega) with hlt|heq
   ·have hlt':(i:Int)<(X.length:Int):=by omega
    obtain ⟨b0,o0,rfl,hb0,q1⟩:=P1.out (by intro h';rw [h'] at hlt;simp at hlt);obtain ⟨s,hs⟩:∃ s,s=X.getD i Sp.zero:=⟨_,rfl⟩;have a0:=q1 i 0 hlt (by omega);have a1:=q1 i 1 hlt (by omega);rw [← hs] at a0 a1;obtain ⟨s0,s1⟩:=s;simp only [Sp.cells,I1,I2,Nat.add_zero] at a0 a1;have a0:=ah HB.out a0 hb0;have a1:=ah HB.out a1 hb0;have i0:(0:Int)≤(i:Int):=by omega
    obtain ⟨r,hr⟩:∃ r,r=oP ⟨s0,s1⟩ ⟨x0,x1⟩:=⟨_,rfl⟩;have HR:=Hp hr;clear hs q1 hr;go_wp2_with fail;refine Zr (fun w'=>w'.cell? ⟨b0,o0+i*2,none⟩=some (.int .i64 s0)∧w'.cell? ⟨b0,o0+i*2+1,none⟩=some (.int .i64 s1)∧w'.cell? ⟨w.heap.size,0,none⟩=some (.int .i64 x0)∧w'.cell? ⟨w.heap.size,1,none⟩=some (.int .i64 x1)) (fun hHeld=>?_);refine eo 0 ?_;refine df 8 ?_;refine Zt 10 ?_;refine Z1 11 (fun K hK=>?_);go_simp;(go_at_call 118;refine (xX ⟨s0,s1⟩ ⟨x0,x1⟩ r HR.out _).mono ?_;rintro e w2 ⟨rfl,hb2⟩);exact Q53
   ·exact Q79
end
section
theorem pJ {α:Type} {p:List α→Prop} (h0:p []) (h1:∀ L s,p L→p (L++[s])):∀ L,p L:=by
 intro L;rw [← L.reverse_reverse]
 induction L.reverse with
 | nil=>exact h0
 | cons s L ih=>rw [List.reverse_cons];exact h1 _ _ ih
def jY (out:List Int) (s:Sp):List Int:=if s.backend∈out then out else out++[s.backend]
def ea (L:List Sp):List Int:=L.foldl jY []
theorem iB (L:List Sp) (s:Sp):ea (L++[s])=jY (ea L) s:=by simp [ea]
theorem Ac (L:List Sp):(ea L).length≤L.length:=by
 refine pJ (p:=fun L=>(ea L).length≤L.length) ?_ ?_ L
 ·simp [ea]
 ·intro L s ih;rw [iB,I8];unfold jY
  split
  ·omega
  ·rw [I8];simp;omega
theorem Ab (L:List Sp) (b:Int):b∈ea L↔∃ s∈L,s.backend=b:=by
 refine pJ (p:=fun L=>b∈ea L↔∃ s∈L,s.backend=b) ?_ ?_ L
 ·simp [ea]
 ·intro L s ih;rw [iB]
  have h:b∈jY (ea L) s↔b∈ea L∨b=s.backend:=by
   unfold jY
   split
   ·constructor
    ·exact Or.inl
    ·rintro (h|rfl)
     ·exact h
     ·assumption
   ·simp
  rw [h,ih];constructor
  ·rintro (⟨t,ht,e⟩|rfl)
   ·exact ⟨t,by simp [ht],e⟩
   ·exact ⟨s,by simp,rfl⟩
  ·rintro ⟨t,ht,e⟩;rw [List.mem_append,List.mem_singleton] at ht;rcases ht with ht|rfl
   ·exact Or.inl ⟨t,ht,e⟩
   ·exact Or.inr e.symm
def xz (k:Nat) (X:List Sp):List Sp:=X.drop k++X.take k
theorem p8 (k:Nat) (X:List Sp):(xz k X).length=X.length:=by
 unfold xz;rw [I8,List.length_drop,Ie];omega
theorem Fh {k:Nat} {X:List Sp} (hk:k≤X.length) {i:Nat} (h:i<X.length):(xz k X).getD i Sp.zero=X.getD ((k+i) % X.length) Sp.zero:=by
 unfold xz;simp only [List.getD];by_cases h1:i<X.length - k
 ·rw [Ix (by rw [List.length_drop];exact h1),List.getElem?_drop,Nat.mod_eq_of_lt (by omega)]
 ·rw [Iy (by rw [List.length_drop];omega),List.length_drop,List.getElem?_take_of_lt (by omega)]
  have:(k+i) % X.length=i - (X.length - k):=by
   rw [Nat.mod_eq_sub_mod (by omega),Nat.mod_eq_of_lt (by omega)];omega
  rw [this]
def gS (X:List Sp) (at_:Int):List Int:=ea (X.filter (fun s=>decide (at_≤s.hash))++X.filter (fun s=>decide (s.hash<at_)))
theorem yA {X:List Sp} {at_:Int} {k:Nat} (h1:Rg1 X) (h:sI X ⟨at_,-1⟩ k):xz k X=X.filter (fun s=>decide (at_≤s.hash))++X.filter (fun s=>decide (s.hash<at_)):=by
 obtain ⟨hk,ha,hb⟩:=h;have e:X=X.take k++X.drop k:=(Ij k X).symm
 have f1:∀ s∈X.take k,s.hash<at_:=by
  intro s hs;obtain ⟨i,hi,rfl⟩:=List.mem_iff_getElem.1 hs;rw [Ie] at hi;have:=ha i (by omega);rw [oY] at this;have hm:=h1 ((X.take k)[i]'(by rw [Ie];omega)) (List.mem_of_mem_take (Ib _));have e2:X.getD i Sp.zero=(X.take k)[i]'(by rw [Ie];omega):=by simp [List.getD,show i<X.length by omega]
  rw [e2] at this;simp only at this;omega
 have f2:∀ s∈X.drop k,at_≤s.hash:=by
  intro s hs;obtain ⟨i,hi,rfl⟩:=List.mem_iff_getElem.1 hs;rw [List.length_drop] at hi;have:=hb (k+i) (by omega) (by omega);rw [lJ] at this;have e2:X.getD (k+i) Sp.zero=(X.drop k)[i]'(by rw [List.length_drop];omega):=by simp [List.getD,show k+i<X.length by omega]
  rw [e2] at this;simp only at this;omega
 have g1:X.filter (fun s=>decide (at_≤s.hash))=X.drop k:=by
  conv=>lhs;rw [e]
  rw [List.filter_append,List.filter_eq_nil_iff.2 (fun s hs=>by have:=f1 s hs;simp;omega),List.filter_eq_self.2 (fun s hs=>by simpa using f2 s hs)]
  rfl
 have g2:X.filter (fun s=>decide (s.hash<at_))=X.take k:=by
  conv=>lhs;rw [e]
  rw [List.filter_append,List.filter_eq_self.2 (fun s hs=>by simpa using f1 s hs),List.filter_eq_nil_iff.2 (fun s hs=>by have:=f2 s hs;simp;omega)];simp
 rw [g1,g2]
 rfl
def AH (k:Nat):Int:=(yd (k % 256) (k / 256 % 256) (k / 65536 % 256) (k / 16777216):Nat)
def zL (X:List Sp) (key:Int) (L:List Int) (c:Int):Prop:=
 (¬ RgMay X∧L=[]∧c=6)∨(RgMay X∧(key<0∨4294967295<key)∧L=[]∧c=2)∨∃ k:Nat,RgMay X∧key=k∧k<4294967296∧L=gS X (AH k)∧c=0
theorem RgMay.ord {X:List Sp} (h:RgMay X):Ep X:=by rw [h.2.2];exact oX _
end
end Go.Proofs.YtneailjecbfljaaGreatDoor
