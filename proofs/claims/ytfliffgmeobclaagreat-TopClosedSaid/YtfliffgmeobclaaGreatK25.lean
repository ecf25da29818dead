/- Texts of the row's proof. Conditions: none. -/
import Derived.Shelf.SlSortCmp.NoneTotal
import Derived.Test.YtfliffgmeobclaaGreatK07
namespace Go.Proofs.YtfliffgmeobclaaGreat
set_option maxRecDepth 100000
set_option maxHeartbeats 8000000
section
open Go.RowKit
theorem Q54 {p:Prop} (h:p:=by
 (try go_wp2_with fail);refine Zk hK fun hHeld=>?_;clear hK K;refine eP 12 ?_;refine Zd ?_;have hbD:Below wr.heap.size wr w2:=(aJ (n:=1) (Hv wr.heap.size wr)).trans (hb2.mono (by simp));have HB2:=Hu (HB.out.trans (hbD.mono HB.out.size));clear hbD hb2 a0 a1;go_wp2;go_ret2;exact ⟨i,_,rfl,HC.out,HB2.out⟩):p:=h
theorem Q80 {p:Prop} (h:p:=by
 subst heq;clear hge;go_wp2_with fail;refine Zr (fun _=>True) (fun hHeld=>?_) (by (try dsimp only);all_goals trivial);refine ep 0 ?_;refine ep 8 ?_;refine Zd ?_;go_wp2;go_ret2;exact ⟨X.length,_,rfl,HC.out,HB.out.drew⟩):p:=h
theorem Q89 {p:Prop} (h:p:=by
 subst hr;go_enter Tryz.func153,Tryz.ntmps153;go_wp2
 all_goals first|(go_ret;exact ⟨rfl,rfl⟩)|exact Zx):p:=h
theorem Q120 {p:Prop} (h:p:=by
 rw [rounds_succ];go_wp2
 all_goals first|(go_ret;exact ⟨rfl,rfl⟩)|exact Zx):p:=h
end
section
open Go.RowKit Go.Shelf Go.Sort
def dA (x y:Int):Int:=if x<y then -1 else if y<x then 1 else 0
def orI (x y:Int):Int:=if x=0 then y else x
theorem By (x y:Int) (w:World):Calls Tryz.prog 153 #[.int .i64 x,.int .i64 y] w fun e w'=>e=.returned (.int .i64 (dA x y))∧w'=w:=by
 obtain ⟨r,hr⟩:∃ r,r=dA x y:=⟨_,rfl⟩;rw [← hr];unfold dA at hr;rcases (show x<y∨(¬ x<y∧y<x)∨(¬ x<y∧¬ y<x) by omega) with h|⟨h,h2⟩|⟨h,h2⟩
 ·rw [if_pos h] at hr;exact Q89
 ·rw [if_neg h,if_pos h2] at hr;exact Q89
 ·rw [if_neg h,if_neg h2] at hr;exact Q89
theorem sK (B:Nat) (x y:Int) (w:World) (h0:w.cell? ⟨B,0,none⟩=some (.int .i64 x)) (h1:w.cell? ⟨B,1,none⟩=some (.int .i64 y)) :
  Calls Tryz.prog 152 #[.slice (some ⟨B,0,none⟩) 2 2] w fun e w'=>e=.returned (.int .i64 (orI x y))∧w'=w:=by
 unfold orI
 by_cases hx:x=0
 ·subst hx;rw [if_pos rfl];by_cases hy:y=0
  ·subst hy;go_enter Tryz.func152,Tryz.ntmps152;go_wp2;refine wp_loop_rounds 3 ?_;rw [rounds_succ];go_wp2;rw [rounds_succ];go_wp2;exact Q120
  ·go_enter Tryz.func152,Tryz.ntmps152;go_wp2;refine wp_loop_rounds 2 ?_;rw [rounds_succ];go_wp2;exact Q120
 ·rw [if_neg hx];go_enter Tryz.func152,Tryz.ntmps152;go_wp2;refine wp_loop_rounds 1 ?_;exact Q120
theorem oD {B:Nat} {w w':World} (h:∃ q os',w'=Go.Sort.grow (w.drewN q) os') (hB:B≤w.heap.size):Below B w w':=by
 obtain ⟨q,os,rfl⟩:=h;refine ⟨(below_drewN (Hv B w) q).os,(below_drewN (Hv B w) q).tape,(below_drewN (Hv B w) q).output,?_,fun j hj=>?_⟩
 ·unfold Go.Sort.grow;have:=(below_drewN (Hv B w) q).size;simp
  try omega
 ·unfold Go.Sort.grow;have h1:=(below_drewN (Hv B w) q).size;have h2:=(below_drewN (Hv B w) q).block j hj;simp only;rw [Array.getElem?_append_left (by omega)];exact h2
def ui (x y:Tm):Int:=orI (dA x.at_ y.at_) (dA x.id y.id)
theorem Gs (x y:Tm):ltOf ui x y=n7 x y:=by
 unfold ltOf ui orI dA n7;by_cases h1:x.at_<y.at_
 ·simp [h1]
 ·by_cases h2:y.at_<x.at_
  ·have h3:¬ x.at_=y.at_:=by omega
   simp [h1,h2,h3]
  ·have h3:x.at_=y.at_:=by omega
   by_cases h4:x.id<y.id
   ·simp [h3,h4]
   ·by_cases h5:y.id<x.id<;>simp [h3,h4,h5]
theorem Fx (x y:Tm) (W:World):Calls Tryz.prog 129 #[.agg (Tm.cells x).toArray,.agg (Tm.cells y).toArray] W fun e w'=>e=.returned (.int .i64 (ui x y))∧∃ q os',w'=Go.Sort.grow (W.drewN q) os':=by
 obtain ⟨x0,x1⟩:=x;obtain ⟨y0,y1⟩:=y;unfold Tm.cells;go_enter Tryz.func129,Tryz.ntmps129;go_wp2_with fail;refine Zr (fun w':World=>w'.cell? ⟨W.heap.size,0,none⟩=some (.int .i64 x0)∧w'.cell? ⟨W.heap.size,1,none⟩=some (.int .i64 x1)∧w'.cell? ⟨W.heap.size+1,0,none⟩=some (.int .i64 y0)∧w'.cell? ⟨W.heap.size+1,1,none⟩=some (.int .i64 y1)) (fun hHeld=>?_) (by (try dsimp only);((try obtain ⟨s0,s1,s2,s3⟩:=hHeld);refine ⟨?_,?_,?_,?_⟩<;>first|assumption|(exact aE _ ‹_›)|(simp;done)));refine eP 0 ?_;refine eP 5 ?_;refine Z1 4 (fun K hK=>?_);go_simp;(first|(go_at_call 153;refine (By _ _ _).mono ?_;rintro e w' ⟨rfl,rfl⟩;(try dsimp only))|(go_at_call 152;refine (sK (W.heap.size+1+1) (dA x0 y0) (dA x1 y1) _ (by exact (ae (az (w:=World.alloc (World.alloc W _) _) (k:=W.heap.size+1+1) (.cells #[.int .i64 (dA x0 y0),.int .i64 (dA x1 y1)] 3) (by simp)) 0)) (by exact (ae (az (w:=World.alloc (World.alloc W _) _) (k:=W.heap.size+1+1) (.cells #[.int .i64 (dA x0 y0),.int .i64 (dA x1 y1)] 3) (by simp)) 1))).mono ?_;rintro e w' ⟨rfl,rfl⟩;(try dsimp only)));(try go_wp2_with fail);refine Zk hK (hS:=by (try dsimp only);((try obtain ⟨s0,s1,s2,s3⟩:=hHeld);refine ⟨?_,?_,?_,?_⟩<;>first|assumption|(exact aE _ ‹_›)|(simp;done))) fun hHeld=>?_;clear hK K;refine Z1 9 (fun K hK=>?_);go_simp;(first|(go_at_call 153;refine (By _ _ _).mono ?_;rintro e w' ⟨rfl,rfl⟩;(try dsimp only))|(go_at_call 152;refine (sK (W.heap.size+1+1) (dA x0 y0) (dA x1 y1) _ (by exact (ae (az (w:=World.alloc (World.alloc W _) _) (k:=W.heap.size+1+1) (.cells #[.int .i64 (dA x0 y0),.int .i64 (dA x1 y1)] 3) (by simp)) 0)) (by exact (ae (az (w:=World.alloc (World.alloc W _) _) (k:=W.heap.size+1+1) (.cells #[.int .i64 (dA x0 y0),.int .i64 (dA x1 y1)] 3) (by simp)) 1))).mono ?_;rintro e w' ⟨rfl,rfl⟩;(try dsimp only)));(try go_wp2_with fail);refine Zk hK (hS:=by (try dsimp only);((try obtain ⟨s0,s1,s2,s3⟩:=hHeld);refine ⟨?_,?_,?_,?_⟩<;>first|assumption|(exact aE _ ‹_›)|(simp;done))) fun hHeld=>?_;clear hK K;refine Z1 10 (fun K hK=>?_);go_simp;refine Zk hK (hS:=by (try dsimp only);((try obtain ⟨s0,s1,s2,s3⟩:=hHeld);refine ⟨?_,?_,?_,?_⟩<;>first|assumption|(exact aE _ ‹_›)|(simp;done))) fun hHeld=>?_;clear hK K;refine Z1 11 (fun K hK=>?_);go_simp;(first|(go_at_call 153;refine (By _ _ _).mono ?_;rintro e w' ⟨rfl,rfl⟩;(try dsimp only))|(go_at_call 152;refine (sK (W.heap.size+1+1) (dA x0 y0) (dA x1 y1) _ (by exact (ae (az (w:=World.alloc (World.alloc W _) _) (k:=W.heap.size+1+1) (.cells #[.int .i64 (dA x0 y0),.int .i64 (dA x1 y1)] 3) (by simp)) 0)) (by exact (ae (az (w:=World.alloc (World.alloc W _) _) (k:=W.heap.size+1+1) (.cells #[.int .i64 (dA x0 y0),.int .i64 (dA x1 y1)] 3) (by simp)) 1))).mono ?_;rintro e w' ⟨rfl,rfl⟩;(try dsimp only)));(try go_wp2_with fail);refine Zk hK (hS:=by (try dsimp only);((try obtain ⟨s0,s1,s2,s3⟩:=hHeld);refine ⟨?_,?_,?_,?_⟩<;>first|assumption|(exact aE _ ‹_›)|(simp;done))) fun hHeld=>?_;clear hK K;refine Zt 12 ?_;refine Zd ?_;go_wp2
 all_goals (go_ret;refine ⟨rfl,1,#[.cells #[.int .i64 x0,.int .i64 x1] 156,.cells #[.int .i64 y0,.int .i64 y1] 156,.cells #[.int .i64 (dA x0 y0),.int .i64 (dA x1 y1)] 3],?_⟩;rw [alloc_eq_grow,alloc_eq_grow,alloc_eq_grow,grow_grow,grow_grow];rfl)
def cutT (X:List Tm) (x:Tm) (k:Nat):Prop:=k≤X.length∧(∀ i,i<k→n7 (X.getD i Tm.zero) x=true)∧(∀ i,k≤i→i<X.length→n7 (X.getD i Tm.zero) x=false)
theorem nF {X:List Tm} (h:iS X) {i j:Nat} (hij:i≤j) (hj:j<X.length):gV (X.getD i Tm.zero) (X.getD j Tm.zero)=true:=by
 have e1:X.getD i Tm.zero=X[i]:=by simp [List.getD,show i<X.length by omega]
 have e2:X.getD j Tm.zero=X[j]:=by simp [List.getD,hj]
 rw [e1,e2];rcases Nat.lt_or_ge i j with h'|h'
 ·exact List.pairwise_iff_getElem.1 h i j (by omega) hj h'
 ·have:i=j:=by omega
  subst this;unfold gV;rw [lF]
  rfl
theorem uJ {a b x:Tm} (h:gV a b=true) (hb:n7 b x=true):n7 a x=true:=by rw [jb] at h;rw [tp] at hb ⊢;omega
theorem tj {a b x:Tm} (h:gV a b=true) (ha:n7 a x=false):n7 b x=false:=by rw [jb] at h;rw [ti] at ha ⊢;omega
theorem tU {a b:Tm}:(ui a b<0)↔n7 a b=true:=by rw [← Gs];unfold ltOf;simp
theorem Fy (x y:Tm) (w:World):Calls Tryz.prog 129 #[.agg #[.int .i64 x.at_,.int .i64 x.id],.agg #[.int .i64 y.at_,.int .i64 y.id]] w fun e w'=>e=.returned (.int .i64 (ui x y))∧Below w.heap.size w w':=
 (Fx x y w).mono fun _ _ ⟨h1,h2⟩=>⟨h1,oD h2 (I3 _)⟩
theorem mu (x y:Tm) (r:Int) (hr:r=ui x y) (w:World):Calls Tryz.prog 129 #[.agg #[.int .i64 x.at_,.int .i64 x.id],.agg #[.int .i64 y.at_,.int .i64 y.id]] w fun e w'=>e=.returned (.int .i64 r)∧Below w.heap.size w w':=by
 rw [hr];exact Fy x y w
def GY (w:World) (X:List Tm) (x:Tm) (e:Ending) (w':World):Prop:=∃ (k:Nat) (f:Bool),e=.returned (.tuple #[.int .i64 (k:Int),.bool f])∧cutT X x k∧Below w.heap.size w w'
theorem bsTm (v:Value) (X:List Tm) (x:Tm) (w:World) (r:aI w 2 v (X.map Tm.cells)) (ho:iS X) (hn:X.length≤1000000000000000):Calls Tryz.prog 145 #[v,.agg #[.int .i64 x.at_,.int .i64 x.id],.func (.func 129) #[] #[]] w (GY w X x):=by
 obtain ⟨a,c,rfl,l1,m1,n1,p1⟩:=aK Tm.zero r;have P1:=Hu p1;have HO:=Hu ho;unfold maxLen at m1;obtain ⟨x0,x1⟩:=x;have eg:∀ args w,(callFunc 129 args).run Tryz.prog w=.ok (.enter 129 args) w:=enters_of Tryz.func129 (by kernel_rfl) rfl;clear r p1 ho;go_enter Tryz.func145,Tryz.ntmps145;go_wp2;go_loopw [9,10] (fun a b wr=>∃ i j:Nat,a=.int .i64 i∧b=.int .i64 j∧i≤j∧j≤X.length∧(∀ k,k<i→n7 (X.getD k Tm.zero) ⟨x0,x1⟩=true)∧(∀ k,j≤k→k<X.length→n7 (X.getD k Tm.zero) ⟨x0,x1⟩=false)∧Below w.heap.size w wr∧wr.cell? ⟨w.heap.size,0,none⟩=some (.int .i64 x0)∧wr.cell? ⟨w.heap.size,1,none⟩=some (.int .i64 x1)) (fun a b _=>(intOf b - intOf a).toNat)
 case atStart=>exact ⟨0,X.length,rfl,rfl,I4 _,I3 _,fun k hk=>by omega,fun k h1 h2=>by omega,(Hv _ _).alloc (I3 _) _,by go_simp,by go_simp⟩
 case round=>
  obtain ⟨i,j,rfl,rfl,hij,hj,h1,h2,hb,t0,t1⟩:=hrel;have HB:=Hu hb;have H1:=Hu h1;have H2:=Hu h2;have hz:=bR t0;clear hb h1 h2;rcases (show i<j∨i=j by omega) with hlt|rfl
  ·have hlt':(i:Int)<(j:Int):=by omega
   obtain ⟨h,hh⟩:∃ h,h=(i+j) / 2:=⟨_,rfl⟩;have hh1:i≤h:=by omega
   have hh2:h<j:=by omega
   have hh3:((i:Int)+(j:Int)) / 2=(h:Int):=by omega
   have hh4:h<X.length:=by omega
   obtain ⟨b0,o0,rfl,hb0,q1⟩:=P1.out (by intro h';rw [h'] at hh4;simp at hh4);obtain ⟨s,hs⟩:∃ s,s=X.getD h Tm.zero:=⟨_,rfl⟩;have a0:=q1 h 0 hh4 (by omega);have a1:=q1 h 1 hh4 (by omega);rw [← hs] at a0 a1;have HS:=Hu hs;obtain ⟨s0,s1⟩:=s;simp only [Tm.cells,I5,I6,Nat.add_zero] at a0 a1;have a0:=ah HB.out a0 hb0;have a1:=ah HB.out a1 hb0;have i0:(0:Int)≤(h:Int):=by omega
   have i2:(0:Int)≤(i:Int)+(j:Int):=by omega
   have i3:(i:Int)+(j:Int)≤4000000000000000:=by omega
   have i1:(h:Int)<(X.length:Int):=by omega
   clear hs q1 hh;obtain ⟨r,hr⟩:∃ r,r=ui ⟨s0,s1⟩ ⟨x0,x1⟩:=⟨_,rfl⟩;have HR:=Hu hr;clear hr;by_cases hsp:n7 ⟨s0,s1⟩ ⟨x0,x1⟩=true
   ·have hneg:r<0:=by rw [HR.out];exact tU.2 hsp
    have HSP:=Hu hsp;clear hsp;go_wp2_with fail;refine Zr (fun w'=>w'.cell? ⟨b0,o0+h*2,none⟩=some (.int .i64 s0)∧w'.cell? ⟨b0,o0+h*2+1,none⟩=some (.int .i64 s1)∧w'.cell? ⟨w.heap.size,0,none⟩=some (.int .i64 x0)∧w'.cell? ⟨w.heap.size,1,none⟩=some (.int .i64 x1)) (fun hHeld=>?_);refine eP 0 ?_;refine df 4 ?_;refine Z1 6 (fun K hK=>?_);go_simp;(go_at_call 129;refine (mu ⟨s0,s1⟩ ⟨x0,x1⟩ r HR.out _).mono ?_;rintro e w2 ⟨rfl,hb2⟩);(try go_wp2_with fail);refine Zk hK fun hHeld=>?_;clear hK K;refine Zt 7 ?_;refine Zd ?_;have hbD:Below wr.heap.size wr w2:=(aJ (n:=1) (Hv wr.heap.size wr)).trans (hb2.mono (by simp));have t0:=ah hbD t0 hz;have t1:=ah hbD t1 hz;have HB2:=Hu (HB.out.trans (hbD.mono HB.out.size));clear hbD hb2 a0 a1;go_wp2;go_roundw
    case rel=>
     refine ⟨h+1,j,by go_num,rfl,by omega,hj,fun k hk=>?_,H2.out,HB2.out,t0,t1⟩;exact uJ (nF HO.out (show k≤h by omega) hh4) (by rw [← HS.out];exact HSP.out)
    case measure=>simp [intOf];omega
   ·have hneg:¬ r<0:=by rw [HR.out];exact fun h=>hsp (tU.1 h)
    have HSP:=Hu (show n7 ⟨s0,s1⟩ ⟨x0,x1⟩=false by simpa using hsp);clear hsp;go_wp2_with fail;refine Zr (fun w'=>w'.cell? ⟨b0,o0+h*2,none⟩=some (.int .i64 s0)∧w'.cell? ⟨b0,o0+h*2+1,none⟩=some (.int .i64 s1)∧w'.cell? ⟨w.heap.size,0,none⟩=some (.int .i64 x0)∧w'.cell? ⟨w.heap.size,1,none⟩=some (.int .i64 x1)) (fun hHeld=>?_);refine eP 0 ?_;refine df 4 ?_;refine Z1 6 (fun K hK=>?_);go_simp;(go_at_call 129;refine (mu ⟨s0,s1⟩ ⟨x0,x1⟩ r HR.out _).mono ?_;rintro e w2 ⟨rfl,hb2⟩);(try go_wp2_with fail);refine Zk hK fun hHeld=>?_;clear hK K;refine Zt 7 ?_;refine Zd ?_;have hbD:Below wr.heap.size wr w2:=(aJ (n:=1) (Hv wr.heap.size wr)).trans (hb2.mono (by simp));have t0:=ah hbD t0 hz;have t1:=ah hbD t1 hz;have HB2:=Hu (HB.out.trans (hbD.mono HB.out.size));clear hbD hb2 a0 a1;go_wp2;go_roundw
    case rel=>
     refine ⟨i,h,rfl,rfl,hh1,by omega,H1.out,fun k h3 h4=>?_,HB2.out,t0,t1⟩;exact tj (nF HO.out h3 h4) (by rw [← HS.out];exact HSP.out)
    case measure=>simp [intOf];omega
  ·have HC:=Hu (show cutT X ⟨x0,x1⟩ i from ⟨hj,H1.out,H2.out⟩);have hge:¬ (i:Int)<(i:Int):=by omega
   rcases (show i<X.length∨i=X.length by omega) with hlt|heq
   ·have hlt':(i:Int)<(X.length:Int):=by omega
    obtain ⟨b0,o0,rfl,hb0,q1⟩:=P1.out (by intro h';rw [h'] at hlt;simp at hlt);obtain ⟨s,hs⟩:∃ s,s=X.getD i Tm.zero:=⟨_,rfl⟩;have a0:=q1 i 0 hlt (by omega);have a1:=q1 i 1 hlt (by omega);rw [← hs] at a0 a1;obtain ⟨s0,s1⟩:=s;simp only [Tm.cells,I5,I6,Nat.add_zero] at a0 a1;have a0:=ah HB.out a0 hb0;have a1:=ah HB.out a1 hb0;have i0:(0:Int)≤(i:Int):=by omega
    obtain ⟨r,hr⟩:∃ r,r=ui ⟨s0,s1⟩ ⟨x0,x1⟩:=⟨_,rfl⟩;have HR:=Hu hr;clear hs q1 hr;go_wp2_with fail;refine Zr (fun w'=>w'.cell? ⟨b0,o0+i*2,none⟩=some (.int .i64 s0)∧w'.cell? ⟨b0,o0+i*2+1,none⟩=some (.int .i64 s1)∧w'.cell? ⟨w.heap.size,0,none⟩=some (.int .i64 x0)∧w'.cell? ⟨w.heap.size,1,none⟩=some (.int .i64 x1)) (fun hHeld=>?_);refine ep 0 ?_;refine df 8 ?_;refine Zt 10 ?_;refine Z1 11 (fun K hK=>?_);go_simp;(go_at_call 129;refine (mu ⟨s0,s1⟩ ⟨x0,x1⟩ r HR.out _).mono ?_;rintro e w2 ⟨rfl,hb2⟩);exact Q54
   ·exact Q80
theorem CN {X:List Tm} (h:∀ k,k+1<X.length→n7 (X.getD (k+1) Tm.zero) (X.getD k Tm.zero)=false):iS X:=by
 have key:∀ j i,i≤j→j<X.length→gV (X.getD i Tm.zero) (X.getD j Tm.zero)=true:=by
  intro j
  induction j with
  | zero=>
   intro i hi hj;obtain rfl:i=0:=by omega
   unfold gV;rw [lF]
   rfl
  | succ j ih=>
   intro i hi hj;by_cases h':i=j+1
   ·subst h';unfold gV;rw [lF]
    rfl
   ·refine pA _ _ _ (ih i (by omega) (by omega)) ?_;unfold gV;rw [h j hj]
    rfl
 refine List.pairwise_iff_getElem.2 fun i j hi hj hij=>?_;have:=key j i (by omega) hj;simpa [List.getD,hi,hj] using this
theorem Dl (v:Value) (X:List Tm) (w:World) (r0:aI w 2 v (X.map Tm.cells)) (hn:X.length≤1000000000000000) (r:Bool) (hr:(iS X∧r=true)∨(¬ iS X∧r=false)):Calls Tryz.prog 128 #[v,.func (.func 129) #[] #[]] w fun e w'=>e=.returned (.bool r)∧Below w.heap.size w w':=by
 obtain ⟨a,c,rfl,l1,m1,n1,p1⟩:=aK Tm.zero r0;have HR:=Hu hr;have eg:∀ args w,(callFunc 129 args).run Tryz.prog w=.ok (.enter 129 args) w:=enters_of Tryz.func129 (by kernel_rfl) rfl;unfold maxLen at m1;clear r0 hr;by_cases hX:X=[]
 ·obtain rfl:r=true:=by
   rcases HR.out with ⟨_,h⟩|⟨h,_⟩
   ·exact h
   ·exact absurd (by rw [hX];exact List.Pairwise.nil) h
  subst hX;clear HR p1;go_enter Tryz.func128,Tryz.ntmps128;go_wp2;refine wp_loop_rounds 1 ?_;rw [rounds_succ];go_wp2
  all_goals first|(go_ret;exact ⟨rfl,Zb⟩)|exact Zx
 ·obtain ⟨b0,o0,rfl,hb0,q1⟩:=p1 hX;have Q1:=Hu q1;obtain ⟨n,hl⟩:∃ n,X.length=n+1:=⟨X.length - 1,by have:=List.length_pos_iff.2 hX;omega⟩;rw [hl];have HL:=Hu hl;have hl1:n+1≤X.length:=by omega
  have hl2:X.length≤n+1:=by omega
  clear p1 q1 hl hX;go_enter Tryz.func128,Tryz.ntmps128;go_wp2;go_loopw [5] (fun i wr=>∃ k:Nat,k≤n∧i=.int .i64 k∧(∀ m,k≤m→m+1<X.length→n7 (X.getD (m+1) Tm.zero) (X.getD m Tm.zero)=false)∧Below w.heap.size w wr) (fun i _=>(intOf i).toNat)
  case atStart=>exact ⟨n,I3 _,by go_num,fun m h1 h2=>by omega,Hv _ _⟩
  case round=>
   obtain ⟨k,hk,rfl,hall,hb⟩:=hrel;have HA:=Hu hall;have HB:=Hu hb;rcases (show k=0∨∃ q,k=q+1 by rcases k with _|q;exact Or.inl rfl;exact Or.inr ⟨q,rfl⟩) with hk0|⟨q,rfl⟩
   ·obtain rfl:r=true:=by
     rcases HR.out with ⟨_,h⟩|⟨h,_⟩
     ·exact h
     ·exact absurd (CN fun m hm=>HA.out m (by omega) hm) h
    clear HR hb hall;subst hk0;go_wp2
    all_goals first|(go_ret;exact ⟨rfl,HB.out⟩)|exact Zx
   ·obtain ⟨s,hs⟩:∃ s,s=X.getD (q+1) Tm.zero:=⟨_,rfl⟩;obtain ⟨t,ht⟩:∃ t,t=X.getD q Tm.zero:=⟨_,rfl⟩;have a0:=Q1.out (q+1) 0 (by omega) (by omega);have a1:=Q1.out (q+1) 1 (by omega) (by omega);have d0:=Q1.out q 0 (by omega) (by omega);have d1:=Q1.out q 1 (by omega) (by omega);rw [← hs] at a0 a1;rw [← ht] at d0 d1;have HS:=Hu hs;have HT:=Hu ht;obtain ⟨s0,s1⟩:=s;obtain ⟨t0,t1⟩:=t;simp only [Tm.cells,I5,I6,Nat.add_zero] at a0 a1 d0 d1;have a0:=ah hb a0 hb0;have a1:=ah hb a1 hb0;have d0:=ah hb d0 hb0;have d1:=ah hb d1 hb0;have hbw:=hb.size;obtain ⟨x,hx⟩:∃ x,x=ui ⟨s0,s1⟩ ⟨t0,t1⟩:=⟨_,rfl⟩;have HX:=Hu hx;have hq1:(0:Int)<(q:Int)+1:=by omega
    have hq2:(q:Int)+1<(n:Int)+1:=by omega
    have hq3:(q:Int)<(n:Int)+1:=by omega
    have hq0:(0:Int)≤(q:Int):=by omega
    have hq4:(0:Int)≤(q:Int)+1:=by omega
    have hq5:((q:Int)+1).toNat=q+1:=by omega
    have hq6:IntKind.i64.wrap (q:Int)=(q:Int):=Iw _ (by omega);clear hs ht hb hall hx;by_cases hneg:x<0
    ·obtain rfl:r=false:=by
      rcases HR.out with ⟨h,_⟩|⟨_,h⟩
      ·have h1:n7 ⟨s0,s1⟩ ⟨t0,t1⟩=true:=tU.1 (by rw [← HX.out];exact hneg);have h2:=nF h (show q≤q+1 by omega) (by omega);rw [← HS.out,← HT.out] at h2;unfold gV at h2;rw [h1] at h2
       cases h2
      ·exact h
     go_wp2_with fail;refine Zr (fun w'=>w'.cell? ⟨b0,o0+(q+1)*2,none⟩=some (.int .i64 s0)∧w'.cell? ⟨b0,o0+(q+1)*2+1,none⟩=some (.int .i64 s1)∧w'.cell? ⟨b0,o0+q*2,none⟩=some (.int .i64 t0)∧w'.cell? ⟨b0,o0+q*2+1,none⟩=some (.int .i64 t1)) (fun hHeld=>?_);refine ep 0 ?_;refine df 8 ?_;refine Z1 10 (fun K hK=>?_);go_simp;(go_at_call 129;refine (mu ⟨s0,s1⟩ ⟨t0,t1⟩ x HX.out _).mono ?_;rintro e w2 ⟨rfl,hb2⟩);(try go_wp2_with fail);refine Zk hK fun hHeld=>?_;clear hK K;refine Zt 11 ?_;refine Zd ?_;have HB2:=Hu (HB.out.trans (((aJ (n:=1) (Hv wr.heap.size wr)).trans (hb2.mono (by simp))).mono HB.out.size));clear hb2 a0 a1 d0 d1;go_wp2
     all_goals first|(go_ret;exact ⟨rfl,HB2.out⟩)|exact Zx
    ·have HN:=Hu (show n7 ⟨s0,s1⟩ ⟨t0,t1⟩=false by
      cases h:n7 ⟨s0,s1⟩ ⟨t0,t1⟩ with
      | false=>rfl
      | true=>exact absurd (by rw [HX.out];exact tU.2 h) hneg)
     go_wp2_with fail;refine Zr (fun w'=>w'.cell? ⟨b0,o0+(q+1)*2,none⟩=some (.int .i64 s0)∧w'.cell? ⟨b0,o0+(q+1)*2+1,none⟩=some (.int .i64 s1)∧w'.cell? ⟨b0,o0+q*2,none⟩=some (.int .i64 t0)∧w'.cell? ⟨b0,o0+q*2+1,none⟩=some (.int .i64 t1)) (fun hHeld=>?_);refine ep 0 ?_;refine df 8 ?_;refine Z1 10 (fun K hK=>?_);go_simp;(go_at_call 129;refine (mu ⟨s0,s1⟩ ⟨t0,t1⟩ x HX.out _).mono ?_;rintro e w2 ⟨rfl,hb2⟩);(try go_wp2_with fail);refine Zk hK fun hHeld=>?_;clear hK K;refine Zt 11 ?_;refine Zd ?_;have HB2:=Hu (HB.out.trans (((aJ (n:=1) (Hv wr.heap.size wr)).trans (hb2.mono (by simp))).mono HB.out.size));clear hb2 a0 a1 d0 d1;go_wp2;go_roundw
     case rel=>
      refine ⟨q,by omega,by go_num,fun m h1 h2=>?_,HB2.out⟩;rcases (show m=q∨q+1≤m by omega) with rfl|h3
      ·rw [← HS.out,← HT.out];exact HN.out
      ·exact HA.out m h3 h2
     case measure=>simp [intOf]
def oR (x y:Sp):Int:=orI (dA x.hash y.hash) (dA x.backend y.backend)
theorem kU (x y:Sp):ltOf oR x y=rP x y:=by
 unfold ltOf oR orI dA rP;by_cases h1:x.hash<y.hash
 ·simp [h1]
 ·by_cases h2:y.hash<x.hash
  ·have h3:¬ x.hash=y.hash:=by omega
   simp [h1,h2,h3]
  ·have h3:x.hash=y.hash:=by omega
   by_cases h4:x.backend<y.backend
   ·simp [h3,h4]
   ·by_cases h5:y.backend<x.backend<;>simp [h3,h4,h5]
theorem zo (x y:Sp) (W:World):Calls Tryz.prog 117 #[.agg (Sp.cells x).toArray,.agg (Sp.cells y).toArray] W fun e w'=>e=.returned (.int .i64 (oR x y))∧∃ q os',w'=Go.Sort.grow (W.drewN q) os':=by
 obtain ⟨x0,x1⟩:=x;obtain ⟨y0,y1⟩:=y;unfold Sp.cells;go_enter Tryz.func117,Tryz.ntmps117;go_wp2_with fail;refine Zr (fun w':World=>w'.cell? ⟨W.heap.size,0,none⟩=some (.int .i64 x0)∧w'.cell? ⟨W.heap.size,1,none⟩=some (.int .i64 x1)∧w'.cell? ⟨W.heap.size+1,0,none⟩=some (.int .i64 y0)∧w'.cell? ⟨W.heap.size+1,1,none⟩=some (.int .i64 y1)) (fun hHeld=>?_) (by (try dsimp only);((try obtain ⟨s0,s1,s2,s3⟩:=hHeld);refine ⟨?_,?_,?_,?_⟩<;>first|assumption|(exact aE _ ‹_›)|(simp;done)));refine eP 0 ?_;refine eP 5 ?_;refine Z1 4 (fun K hK=>?_);go_simp;(first|(go_at_call 153;refine (By _ _ _).mono ?_;rintro e w' ⟨rfl,rfl⟩;(try dsimp only))|(go_at_call 152;refine (sK (W.heap.size+1+1) (dA x0 y0) (dA x1 y1) _ (by exact (ae (az (w:=World.alloc (World.alloc W _) _) (k:=W.heap.size+1+1) (.cells #[.int .i64 (dA x0 y0),.int .i64 (dA x1 y1)] 3) (by simp)) 0)) (by exact (ae (az (w:=World.alloc (World.alloc W _) _) (k:=W.heap.size+1+1) (.cells #[.int .i64 (dA x0 y0),.int .i64 (dA x1 y1)] 3) (by simp)) 1))).mono ?_;rintro e w' ⟨rfl,rfl⟩;(try dsimp only)));(try go_wp2_with fail);refine Zk hK (hS:=by (try dsimp only);((try obtain ⟨s0,s1,s2,s3⟩:=hHeld);refine ⟨?_,?_,?_,?_⟩<;>first|assumption|(exact aE _ ‹_›)|(simp;done))) fun hHeld=>?_;clear hK K;refine Z1 9 (fun K hK=>?_);go_simp;(first|(go_at_call 153;refine (By _ _ _).mono ?_;rintro e w' ⟨rfl,rfl⟩;(try dsimp only))|(go_at_call 152;refine (sK (W.heap.size+1+1) (dA x0 y0) (dA x1 y1) _ (by exact (ae (az (w:=World.alloc (World.alloc W _) _) (k:=W.heap.size+1+1) (.cells #[.int .i64 (dA x0 y0),.int .i64 (dA x1 y1)] 3) (by simp)) 0)) (by exact (ae (az (w:=World.alloc (World.alloc W _) _) (k:=W.heap.size+1+1) (.cells #[.int .i64 (dA x0 y0),.int .i64 (dA x1 y1)] 3) (by simp)) 1))).mono ?_;rintro e w' ⟨rfl,rfl⟩;(try dsimp only)));(try go_wp2_with fail);refine Zk hK (hS:=by (try dsimp only);((try obtain ⟨s0,s1,s2,s3⟩:=hHeld);refine ⟨?_,?_,?_,?_⟩<;>first|assumption|(exact aE _ ‹_›)|(simp;done))) fun hHeld=>?_;clear hK K;refine Z1 10 (fun K hK=>?_);go_simp;refine Zk hK (hS:=by (try dsimp only);((try obtain ⟨s0,s1,s2,s3⟩:=hHeld);refine ⟨?_,?_,?_,?_⟩<;>first|assumption|(exact aE _ ‹_›)|(simp;done))) fun hHeld=>?_;clear hK K;refine Z1 11 (fun K hK=>?_);go_simp;(first|(go_at_call 153;refine (By _ _ _).mono ?_;rintro e w' ⟨rfl,rfl⟩;(try dsimp only))|(go_at_call 152;refine (sK (W.heap.size+1+1) (dA x0 y0) (dA x1 y1) _ (by exact (ae (az (w:=World.alloc (World.alloc W _) _) (k:=W.heap.size+1+1) (.cells #[.int .i64 (dA x0 y0),.int .i64 (dA x1 y1)] 3) (by simp)) 0)) (by exact (ae (az (w:=World.alloc (World.alloc W _) _) (k:=W.heap.size+1+1) (.cells #[.int .i64 (dA x0 y0),.int .i64 (dA x1 y1)] 3) (by simp)) 1))).mono ?_;rintro e w' ⟨rfl,rfl⟩;(try dsimp only)));(try go_wp2_with fail);refine Zk hK (hS:=by (try dsimp only);((try obtain ⟨s0,s1,s2,s3⟩:=hHeld);refine ⟨?_,?_,?_,?_⟩<;>first|assumption|(exact aE _ ‹_›)|(simp;done))) fun hHeld=>?_;clear hK K;refine Zt 12 ?_;refine Zd ?_;go_wp2
 all_goals (go_ret;refine ⟨rfl,1,#[.cells #[.int .i64 x0,.int .i64 x1] 151,.cells #[.int .i64 y0,.int .i64 y1] 151,.cells #[.int .i64 (dA x0 y0),.int .i64 (dA x1 y1)] 3],?_⟩;rw [alloc_eq_grow,alloc_eq_grow,alloc_eq_grow,grow_grow,grow_grow];rfl)
def sJ (X:List Sp) (x:Sp) (k:Nat):Prop:=k≤X.length∧(∀ i,i<k→rP (X.getD i Sp.zero) x=true)∧(∀ i,k≤i→i<X.length→rP (X.getD i Sp.zero) x=false)
theorem vx {X:List Sp} (h:Es X) {i j:Nat} (hij:i≤j) (hj:j<X.length):je (X.getD i Sp.zero) (X.getD j Sp.zero)=true:=by
 have e1:X.getD i Sp.zero=X[i]:=by simp [List.getD,show i<X.length by omega]
 have e2:X.getD j Sp.zero=X[j]:=by simp [List.getD,hj]
 rw [e1,e2];rcases Nat.lt_or_ge i j with h'|h'
 ·exact List.pairwise_iff_getElem.1 h i j (by omega) hj h'
 ·have:i=j:=by omega
  subst this;unfold je;rw [xJ]
  rfl
theorem uQ {a b x:Sp} (h:je a b=true) (hb:rP b x=true):rP a x=true:=by rw [kb] at h;rw [oZ] at hb ⊢;omega
theorem tt {a b x:Sp} (h:je a b=true) (ha:rP a x=false):rP b x=false:=by rw [kb] at h;rw [lJ] at ha ⊢;omega
theorem H9 {a b:Sp}:(oR a b<0)↔rP a b=true:=by rw [← kU];unfold ltOf;simp
theorem orderB (x y:Sp) (w:World):Calls Tryz.prog 117 #[.agg #[.int .i64 x.hash,.int .i64 x.backend],.agg #[.int .i64 y.hash,.int .i64 y.backend]] w fun e w'=>e=.returned (.int .i64 (oR x y))∧Below w.heap.size w w':=
 (zo x y w).mono fun _ _ ⟨h1,h2⟩=>⟨h1,oD h2 (I3 _)⟩
theorem xY (x y:Sp) (r:Int) (hr:r=oR x y) (w:World):Calls Tryz.prog 117 #[.agg #[.int .i64 x.hash,.int .i64 x.backend],.agg #[.int .i64 y.hash,.int .i64 y.backend]] w fun e w'=>e=.returned (.int .i64 r)∧Below w.heap.size w w':=by
 rw [hr];exact orderB x y w
def BsPost (w:World) (X:List Sp) (x:Sp) (e:Ending) (w':World):Prop:=∃ (k:Nat) (f:Bool),e=.returned (.tuple #[.int .i64 (k:Int),.bool f])∧sJ X x k∧Below w.heap.size w w'
theorem bsSp (v:Value) (X:List Sp) (x:Sp) (w:World) (r:aI w 2 v (X.map Sp.cells)) (ho:Es X) (hn:X.length≤1000000000000000):Calls Tryz.prog 157 #[v,.agg #[.int .i64 x.hash,.int .i64 x.backend],.func (.func 117) #[] #[]] w (BsPost w X x):=by
 obtain ⟨a,c,rfl,l1,m1,n1,p1⟩:=aK Sp.zero r;have P1:=Hu p1;have HO:=Hu ho;unfold maxLen at m1;obtain ⟨x0,x1⟩:=x;have eg:∀ args w,(callFunc 117 args).run Tryz.prog w=.ok (.enter 117 args) w:=enters_of Tryz.func117 (by kernel_rfl) rfl;clear r p1 ho;go_enter Tryz.func157,Tryz.ntmps157;go_wp2;go_loopw [9,10] (fun a b wr=>∃ i j:Nat,a=.int .i64 i∧b=.int .i64 j∧i≤j∧j≤X.length∧(∀ k,k<i→rP (X.getD k Sp.zero) ⟨x0,x1⟩=true)∧(∀ k,j≤k→k<X.length→rP (X.getD k Sp.zero) ⟨x0,x1⟩=false)∧Below w.heap.size w wr∧wr.cell? ⟨w.heap.size,0,none⟩=some (.int .i64 x0)∧wr.cell? ⟨w.heap.size,1,none⟩=some (.int .i64 x1)) (fun a b _=>(intOf b - intOf a).toNat)
 case atStart=>exact ⟨0,X.length,rfl,rfl,I4 _,I3 _,fun k hk=>by omega,fun k h1 h2=>by omega,(Hv _ _).alloc (I3 _) _,by go_simp,by go_simp⟩
 case round=>
  obtain ⟨i,j,rfl,rfl,hij,hj,h1,h2,hb,t0,t1⟩:=hrel;have HB:=Hu hb;have H1:=Hu h1;have H2:=Hu h2;have hz:=bR t0;clear hb h1 h2;rcases (show i<j∨i=j by omega) with hlt|rfl
  ·have hlt':(i:Int)<(j:Int):=by omega
   obtain ⟨h,hh⟩:∃ h,h=(i+j) / 2:=⟨_,rfl⟩;have hh1:i≤h:=by omega
   have hh2:h<j:=by omega
   have hh3:((i:Int)+(j:Int)) / 2=(h:Int):=by omega
   have hh4:h<X.length:=by omega
   obtain ⟨b0,o0,rfl,hb0,q1⟩:=P1.out (by intro h';rw [h'] at hh4;simp at hh4);obtain ⟨s,hs⟩:∃ s,s=X.getD h Sp.zero:=⟨_,rfl⟩;have a0:=q1 h 0 hh4 (by omega);have a1:=q1 h 1 hh4 (by omega);rw [← hs] at a0 a1;have HS:=Hu hs;obtain ⟨s0,s1⟩:=s;simp only [Sp.cells,I5,I6,Nat.add_zero] at a0 a1;have a0:=ah HB.out a0 hb0;have a1:=ah HB.out a1 hb0;have i0:(0:Int)≤(h:Int):=by omega
   have i2:(0:Int)≤(i:Int)+(j:Int):=by omega
   have i3:(i:Int)+(j:Int)≤4000000000000000:=by omega
   have i1:(h:Int)<(X.length:Int):=by omega
   clear hs q1 hh;obtain ⟨r,hr⟩:∃ r,r=oR ⟨s0,s1⟩ ⟨x0,x1⟩:=⟨_,rfl⟩;have HR:=Hu hr;clear hr;by_cases hsp:rP ⟨s0,s1⟩ ⟨x0,x1⟩=true
   ·have hneg:r<0:=by rw [HR.out];exact H9.2 hsp
    have HSP:=Hu hsp;clear hsp;go_wp2_with fail;refine Zr (fun w'=>w'.cell? ⟨b0,o0+h*2,none⟩=some (.int .i64 s0)∧w'.cell? ⟨b0,o0+h*2+1,none⟩=some (.int .i64 s1)∧w'.cell? ⟨w.heap.size,0,none⟩=some (.int .i64 x0)∧w'.cell? ⟨w.heap.size,1,none⟩=some (.int .i64 x1)) (fun hHeld=>?_);refine eP 0 ?_;refine df 4 ?_;refine Z1 6 (fun K hK=>?_);go_simp;(go_at_call 117;refine (xY ⟨s0,s1⟩ ⟨x0,x1⟩ r HR.out _).mono ?_;rintro e w2 ⟨rfl,hb2⟩);(try go_wp2_with fail);refine Zk hK fun hHeld=>?_;clear hK K;refine Zt 7 ?_;refine Zd ?_;have hbD:Below wr.heap.size wr w2:=(aJ (n:=1) (Hv wr.heap.size wr)).trans (hb2.mono (by simp));have t0:=ah hbD t0 hz;have t1:=ah hbD t1 hz;have HB2:=Hu (HB.out.trans (hbD.mono HB.out.size));clear hbD hb2 a0 a1;go_wp2;go_roundw
    case rel=>
     refine ⟨h+1,j,by go_num,rfl,by omega,hj,fun k hk=>?_,H2.out,HB2.out,t0,t1⟩;exact uQ (vx HO.out (show k≤h by omega) hh4) (by rw [← HS.out];exact HSP.out)
    case measure=>simp [intOf];omega
   ·have hneg:¬ r<0:=by rw [HR.out];exact fun h=>hsp (H9.1 h)
    have HSP:=Hu (show rP ⟨s0,s1⟩ ⟨x0,x1⟩=false by simpa using hsp);clear hsp;go_wp2_with fail;refine Zr (fun w'=>w'.cell? ⟨b0,o0+h*2,none⟩=some (.int .i64 s0)∧w'.cell? ⟨b0,o0+h*2+1,none⟩=some (.int .i64 s1)∧w'.cell? ⟨w.heap.size,0,none⟩=some (.int .i64 x0)∧w'.cell? ⟨w.heap.size,1,none⟩=some (.int .i64 x1)) (fun hHeld=>?_);refine eP 0 ?_;refine df 4 ?_;refine Z1 6 (fun K hK=>?_);go_simp;(go_at_call 117;refine (xY ⟨s0,s1⟩ ⟨x0,x1⟩ r HR.out _).mono ?_;rintro e w2 ⟨rfl,hb2⟩);(try go_wp2_with fail);refine Zk hK fun hHeld=>?_;clear hK K;refine Zt 7 ?_;refine Zd ?_;have hbD:Below wr.heap.size wr w2:=(aJ (n:=1) (Hv wr.heap.size wr)).trans (hb2.mono (by simp));have t0:=ah hbD t0 hz;have t1:=ah hbD t1 hz;have HB2:=Hu (HB.out.trans (hbD.mono HB.out.size));clear hbD hb2 a0 a1;go_wp2;go_roundw
    case rel=>
     refine ⟨i,h,rfl,rfl,hh1,by omega,H1.out,fun k h3 h4=>?_,HB2.out,t0,t1⟩;exact tt (vx HO.out h3 h4) (by rw [← HS.out];exact HSP.out)
    case measure=>simp [intOf];omega
  ·have HC:=Hu (show sJ X ⟨x0,x1⟩ i from ⟨hj,H1.out,H2.out⟩);have hge:¬ (i:Int)<(i:Int):=by omega
   rcases (show i<X.length∨i=X.length by omega) with hlt|heq
   ·have hlt':(i:Int)<(X.length:Int):=by omega
    obtain ⟨b0,o0,rfl,hb0,q1⟩:=P1.out (by intro h';rw [h'] at hlt;simp at hlt);obtain ⟨s,hs⟩:∃ s,s=X.getD i Sp.zero:=⟨_,rfl⟩;have a0:=q1 i 0 hlt (by omega);have a1:=q1 i 1 hlt (by omega);rw [← hs] at a0 a1;obtain ⟨s0,s1⟩:=s;simp only [Sp.cells,I5,I6,Nat.add_zero] at a0 a1;have a0:=ah HB.out a0 hb0;have a1:=ah HB.out a1 hb0;have i0:(0:Int)≤(i:Int):=by omega
    obtain ⟨r,hr⟩:∃ r,r=oR ⟨s0,s1⟩ ⟨x0,x1⟩:=⟨_,rfl⟩;have HR:=Hu hr;clear hs q1 hr;go_wp2_with fail;refine Zr (fun w'=>w'.cell? ⟨b0,o0+i*2,none⟩=some (.int .i64 s0)∧w'.cell? ⟨b0,o0+i*2+1,none⟩=some (.int .i64 s1)∧w'.cell? ⟨w.heap.size,0,none⟩=some (.int .i64 x0)∧w'.cell? ⟨w.heap.size,1,none⟩=some (.int .i64 x1)) (fun hHeld=>?_);refine ep 0 ?_;refine df 8 ?_;refine Zt 10 ?_;refine Z1 11 (fun K hK=>?_);go_simp;(go_at_call 117;refine (xY ⟨s0,s1⟩ ⟨x0,x1⟩ r HR.out _).mono ?_;rintro e w2 ⟨rfl,hb2⟩);exact Q54
   ·exact Q80
end
section
theorem pK {α:Type} {p:List α→Prop} (h0:p []) (h1:∀ L s,p L→p (L++[s])):∀ L,p L:=by
 intro L;rw [← L.reverse_reverse]
 induction L.reverse with
 | nil=>exact h0
 | cons s L ih=>rw [List.reverse_cons];exact h1 _ _ ih
def jZ (out:List Int) (s:Sp):List Int:=if s.backend∈out then out else out++[s.backend]
def ee (L:List Sp):List Int:=L.foldl jZ []
theorem iC (L:List Sp) (s:Sp):ee (L++[s])=jZ (ee L) s:=by simp [ee]
theorem Ad (L:List Sp):(ee L).length≤L.length:=by
 refine pK (p:=fun L=>(ee L).length≤L.length) ?_ ?_ L
 ·simp [ee]
 ·intro L s ih;rw [iC,Ic];unfold jZ
  split
  ·omega
  ·rw [Ic];simp;omega
theorem Ac (L:List Sp) (b:Int):b∈ee L↔∃ s∈L,s.backend=b:=by
 refine pK (p:=fun L=>b∈ee L↔∃ s∈L,s.backend=b) ?_ ?_ L
 ·simp [ee]
 ·intro L s ih;rw [iC]
  have h:b∈jZ (ee L) s↔b∈ee L∨b=s.backend:=by
   unfold jZ
   split
   ·constructor
    ·exact Or.inl
    ·rintro (h|rfl)
     ·exact h
     ·assumption
   ·simp
  rw [h,ih];constructor
  ·rintro (⟨t,ht,e⟩|rfl)
   ·exact ⟨t,by simp [ht],e⟩
   ·exact ⟨s,by simp,rfl⟩
  ·rintro ⟨t,ht,e⟩;rw [List.mem_append,List.mem_singleton] at ht;rcases ht with ht|rfl
   ·exact Or.inl ⟨t,ht,e⟩
   ·exact Or.inr e.symm
def xz (k:Nat) (X:List Sp):List Sp:=X.drop k++X.take k
theorem p9 (k:Nat) (X:List Sp):(xz k X).length=X.length:=by
 unfold xz;rw [Ic,List.length_drop,Ii];omega
theorem Fm {k:Nat} {X:List Sp} (hk:k≤X.length) {i:Nat} (h:i<X.length):(xz k X).getD i Sp.zero=X.getD ((k+i) % X.length) Sp.zero:=by
 unfold xz;simp only [List.getD];by_cases h1:i<X.length - k
 ·rw [IB (by rw [List.length_drop];exact h1),List.getElem?_drop,Nat.mod_eq_of_lt (by omega)]
 ·rw [IC (by rw [List.length_drop];omega),List.length_drop,List.getElem?_take_of_lt (by omega)]
  have:(k+i) % X.length=i - (X.length - k):=by
   rw [Nat.mod_eq_sub_mod (by omega),Nat.mod_eq_of_lt (by omega)];omega
  rw [this]
def gU (X:List Sp) (at_:Int):List Int:=ee (X.filter (fun s=>decide (at_≤s.hash))++X.filter (fun s=>decide (s.hash<at_)))
theorem yB {X:List Sp} {at_:Int} {k:Nat} (h1:Rg1 X) (h:sJ X ⟨at_,-1⟩ k):xz k X=X.filter (fun s=>decide (at_≤s.hash))++X.filter (fun s=>decide (s.hash<at_)):=by
 obtain ⟨hk,ha,hb⟩:=h;have e:X=X.take k++X.drop k:=(Io k X).symm
 have f1:∀ s∈X.take k,s.hash<at_:=by
  intro s hs;obtain ⟨i,hi,rfl⟩:=List.mem_iff_getElem.1 hs;rw [Ii] at hi;have:=ha i (by omega);rw [oZ] at this;have hm:=h1 ((X.take k)[i]'(by rw [Ii];omega)) (List.mem_of_mem_take (If _));have e2:X.getD i Sp.zero=(X.take k)[i]'(by rw [Ii];omega):=by simp [List.getD,show i<X.length by omega]
  rw [e2] at this;simp only at this;omega
 have f2:∀ s∈X.drop k,at_≤s.hash:=by
  intro s hs;obtain ⟨i,hi,rfl⟩:=List.mem_iff_getElem.1 hs;rw [List.length_drop] at hi;have:=hb (k+i) (by omega) (by omega);rw [lJ] at this;have e2:X.getD (k+i) Sp.zero=(X.drop k)[i]'(by rw [List.length_drop];omega):=by simp [List.getD,show k+i<X.length by omega]
  rw [e2] at this;simp only at this;omega
 have g1:X.filter (fun s=>decide (at_≤s.hash))=X.drop k:=by
  conv=>lhs;rw [e]
  rw [List.filter_append,List.filter_eq_nil_iff.2 (fun s hs=>by have:=f1 s hs;simp;omega),List.filter_eq_self.2 (fun s hs=>by simpa using f2 s hs)]
  rfl
 have g2:X.filter (fun s=>decide (s.hash<at_))=X.take k:=by
  conv=>lhs;rw [e]
  rw [List.filter_append,List.filter_eq_self.2 (fun s hs=>by simpa using f1 s hs),List.filter_eq_nil_iff.2 (fun s hs=>by have:=f2 s hs;simp;omega)];simp
 rw [g1,g2]
 rfl
def AJ (k:Nat):Int:=(ye (k % 256) (k / 256 % 256) (k / 65536 % 256) (k / 16777216):Nat)
def zM (X:List Sp) (key:Int) (L:List Int) (c:Int):Prop:=
 (¬ RgMay X∧L=[]∧c=6)∨(RgMay X∧(key<0∨4294967295<key)∧L=[]∧c=2)∨∃ k:Nat,RgMay X∧key=k∧k<4294967296∧L=gU X (AJ k)∧c=0
theorem RgMay.ord {X:List Sp} (h:RgMay X):Es X:=by rw [h.2.2];exact oY _
end
end Go.Proofs.YtfliffgmeobclaaGreat
