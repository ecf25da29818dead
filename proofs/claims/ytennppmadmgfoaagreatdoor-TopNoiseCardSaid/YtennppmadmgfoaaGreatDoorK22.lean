/- Texts of the row's proof. Conditions: none. -/
import Derived.Shelf.SlSortCmp.NoneTotal
import Derived.Test.YtennppmadmgfoaaGreatDoorK05
namespace Go.Proofs.YtennppmadmgfoaaGreatDoor
open Proofs.Tryz
set_option maxRecDepth 100000
set_option maxHeartbeats 8000000
section
open Go.RowKit
theorem Q51 {p:Prop} (h:p:=by
 (try go_wp2_with fail);refine Zk hK fun hHeld=>?_;clear hK K;refine eY 12 ?_;refine Zd ?_;have hbD:Below wr.heap.size wr w2:=(aM (n:=1) (KM wr.heap.size wr)).trans (hb2.mono (by simp));have HB2:=KL (HB.out.trans (hbD.mono HB.out.size));clear hbD hb2 a0 a1;go_wp2;go_ret2;exact ⟨i,_,rfl,HC.out,HB2.out⟩):p:=h
theorem Q74 {p:Prop} (h:p:=by
 subst heq;clear hge;go_wp2_with fail;refine Zr (fun _=>True) (fun hHeld=>?_) (by (try dsimp only);all_goals trivial);refine eD 0 ?_;refine eD 8 ?_;refine Zd ?_;go_wp2;go_ret2;exact ⟨X.length,_,rfl,HC.out,HB.out.drew⟩):p:=h
theorem Q81 {p:Prop} (h:p:=by
 subst hr;go_in;go_wp2
 all_goals first|(go_ret;exact ⟨rfl,rfl⟩)|exact Zx):p:=h
theorem Q107 {p:Prop} (h:p:=by
 rw [rounds_succ];go_wp2
 all_goals first|(go_ret;exact ⟨rfl,rfl⟩)|exact Zx):p:=h
end
section
open Go.RowKit Go.Shelf Go.Sort
def dE (x y:Int):Int:=if x<y then -1 else if y<x then 1 else 0
def orI (x y:Int):Int:=if x=0 then y else x
theorem DE (x y:Int) (w:World):Calls prog 157 #[.int .i64 x,.int .i64 y] w fun e w'=>e=.returned (.int .i64 (dE x y))/\w'=w:=by
 obtain ⟨E,hr⟩:∃ E,E=dE x y:=⟨_,rfl⟩;rw [<- hr];unfold dE at hr;rcases (show x<y\/(¬ x<y/\y<x)\/(¬ x<y/\¬ y<x) by omega) with h|⟨h,z⟩|⟨h,z⟩
 ·rw [if_pos h] at hr;exact Q81
 ·rw [if_neg h,if_pos z] at hr;exact Q81
 ·rw [if_neg h,if_neg z] at hr;exact Q81
theorem tZ (B:Nat) (x y:Int) (w:World) (z:w.cell? ⟨B,0,none⟩=some (.int .i64 x)) (E:w.cell? ⟨B,1,none⟩=some (.int .i64 y)) :
  Calls prog 156 #[.slice (some ⟨B,0,none⟩) 2 2] w fun e w'=>e=.returned (.int .i64 (orI x y))/\w'=w:=by
 unfold orI
 by_cases hx:x=0
 ·subst hx;rw [if_pos rfl];by_cases hy:y=0
  ·subst hy;go_in;go_wp2;refine wp_loop_rounds 3 ?_;rw [rounds_succ];go_wp2;rw [rounds_succ];go_wp2;exact Q107
  ·go_in;go_wp2;refine wp_loop_rounds 2 ?_;rw [rounds_succ];go_wp2;exact Q107
 ·rw [if_neg hx];go_in;go_wp2;refine wp_loop_rounds 1 ?_;exact Q107
theorem pG {B:Nat} {w w':World} (h:∃ q J,w'=Go.Sort.grow (w.drewN q) J) (U:B<=w.heap.size):Below B w w':=by
 obtain ⟨q,W,rfl⟩:=h;refine ⟨(below_drewN (KM B w) q).os,(below_drewN (KM B w) q).tape,(below_drewN (KM B w) q).output,?_,fun I E=>?_⟩
 ·unfold Go.Sort.grow;have:=(below_drewN (KM B w) q).size;simp
  try omega
 ·unfold Go.Sort.grow;have K:=(below_drewN (KM B w) q).size;have z:=(below_drewN (KM B w) q).block I E;simp only;rw [Array.getElem?_append_left (by omega)];exact z
def vG (x y:Tm):Int:=orI (dE x.at_ y.at_) (dE x.id y.id)
theorem JC (x y:Tm):ltOf vG x y=nY x y:=by
 unfold ltOf vG orI dE nY;by_cases h1:x.at_<y.at_
 ·simp [h1]
 ·by_cases h2:y.at_<x.at_
  ·have h:¬ x.at_=y.at_:=by omega
   simp [h1,h2,h]
  ·have h:x.at_=y.at_:=by omega
   by_cases h4:x.id<y.id
   ·simp [h,h4]
   ·by_cases h5:y.id<x.id<;>simp [h,h4,h5]
theorem IQ (x y:Tm) (W:World):Calls prog 133 #[.agg (Tm.cells x).toArray,.agg (Tm.cells y).toArray] W fun e w'=>e=.returned (.int .i64 (vG x y))/\∃ q os',w'=Go.Sort.grow (W.drewN q) os':=by
 obtain ⟨z,E⟩:=x;obtain ⟨y0,y1⟩:=y;unfold Tm.cells;go_in;go_wp2_with fail;refine Zr (fun w':World=>w'.cell? ⟨W.heap.size,0,none⟩=some (.int .i64 z)/\w'.cell? ⟨W.heap.size,1,none⟩=some (.int .i64 E)/\w'.cell? ⟨W.heap.size+1,0,none⟩=some (.int .i64 y0)/\w'.cell? ⟨W.heap.size+1,1,none⟩=some (.int .i64 y1)) (fun I=>?_) (by (try dsimp only);((try obtain ⟨J,U,Y,Z⟩:=I);refine ⟨?_,?_,?_,?_⟩<;>first|assumption|(exact aI _ ‹_›)|(simp;done)));refine eY 0 ?_;refine eY 5 ?_;refine Z1 4 (fun K hK=>?_);go_simp;(first|(go_at_call 157;refine (DE _ _ _).mono ?_;rintro e w' ⟨rfl,rfl⟩;(try dsimp only))|(go_at_call 156;refine (tZ (W.heap.size+1+1) (dE z y0) (dE E y1) _ (by exact (ae (aB (w:=World.alloc (World.alloc W _) _) (k:=W.heap.size+1+1) (.cells #[.int .i64 (dE z y0),.int .i64 (dE E y1)] 3) (by simp)) 0)) (by exact (ae (aB (w:=World.alloc (World.alloc W _) _) (k:=W.heap.size+1+1) (.cells #[.int .i64 (dE z y0),.int .i64 (dE E y1)] 3) (by simp)) 1))).mono ?_;rintro e w' ⟨rfl,rfl⟩;(try dsimp only)));(try go_wp2_with fail);refine Zk hK (hS:=by (try dsimp only);((try obtain ⟨J,U,Y,Z⟩:=I);refine ⟨?_,?_,?_,?_⟩<;>first|assumption|(exact aI _ ‹_›)|(simp;done))) fun I=>?_;clear hK K;refine Z1 9 (fun K hK=>?_);go_simp;(first|(go_at_call 157;refine (DE _ _ _).mono ?_;rintro e w' ⟨rfl,rfl⟩;(try dsimp only))|(go_at_call 156;refine (tZ (W.heap.size+1+1) (dE z y0) (dE E y1) _ (by exact (ae (aB (w:=World.alloc (World.alloc W _) _) (k:=W.heap.size+1+1) (.cells #[.int .i64 (dE z y0),.int .i64 (dE E y1)] 3) (by simp)) 0)) (by exact (ae (aB (w:=World.alloc (World.alloc W _) _) (k:=W.heap.size+1+1) (.cells #[.int .i64 (dE z y0),.int .i64 (dE E y1)] 3) (by simp)) 1))).mono ?_;rintro e w' ⟨rfl,rfl⟩;(try dsimp only)));(try go_wp2_with fail);refine Zk hK (hS:=by (try dsimp only);((try obtain ⟨J,U,Y,Z⟩:=I);refine ⟨?_,?_,?_,?_⟩<;>first|assumption|(exact aI _ ‹_›)|(simp;done))) fun I=>?_;clear hK K;refine Z1 10 (fun K hK=>?_);go_simp;refine Zk hK (hS:=by (try dsimp only);((try obtain ⟨J,U,Y,Z⟩:=I);refine ⟨?_,?_,?_,?_⟩<;>first|assumption|(exact aI _ ‹_›)|(simp;done))) fun I=>?_;clear hK K;refine Z1 11 (fun K hK=>?_);go_simp;(first|(go_at_call 157;refine (DE _ _ _).mono ?_;rintro e w' ⟨rfl,rfl⟩;(try dsimp only))|(go_at_call 156;refine (tZ (W.heap.size+1+1) (dE z y0) (dE E y1) _ (by exact (ae (aB (w:=World.alloc (World.alloc W _) _) (k:=W.heap.size+1+1) (.cells #[.int .i64 (dE z y0),.int .i64 (dE E y1)] 3) (by simp)) 0)) (by exact (ae (aB (w:=World.alloc (World.alloc W _) _) (k:=W.heap.size+1+1) (.cells #[.int .i64 (dE z y0),.int .i64 (dE E y1)] 3) (by simp)) 1))).mono ?_;rintro e w' ⟨rfl,rfl⟩;(try dsimp only)));(try go_wp2_with fail);refine Zk hK (hS:=by (try dsimp only);((try obtain ⟨J,U,Y,Z⟩:=I);refine ⟨?_,?_,?_,?_⟩<;>first|assumption|(exact aI _ ‹_›)|(simp;done))) fun I=>?_;clear hK K;refine Zt 12 ?_;refine Zd ?_;go_wp2
 all_goals (go_ret;refine ⟨rfl,1,#[.cells #[.int .i64 z,.int .i64 E] 184,.cells #[.int .i64 y0,.int .i64 y1] 184,.cells #[.int .i64 (dE z y0),.int .i64 (dE E y1)] 3],?_⟩;rw [alloc_eq_grow,alloc_eq_grow,alloc_eq_grow,grow_grow,grow_grow];rfl)
def cutT (X:List Tm) (x:Tm) (k:Nat):Prop:=k<=X.length/\(∀ i,i<k->nY (X.getD i Tm.zero) x=true)/\(∀ i,k<=i->i<X.length->nY (X.getD i Tm.zero) x=false)
theorem oL {X:List Tm} (J:j4 X) {i j:Nat} (K:i<=j) (z:j<X.length):i7 (X.getD i Tm.zero) (X.getD j Tm.zero)=true:=by
 have E:X.getD i Tm.zero=X[i]:=by simp [List.getD,show i<X.length by omega]
 have I:X.getD j Tm.zero=X[j]:=by simp [List.getD,z]
 rw [E,I];rcases Nat.lt_or_ge i j with h|h
 ·exact List.pairwise_iff_getElem.1 J i j (by omega) z h
 ·have:i=j:=by omega
  subst this;unfold i7;rw [mg]
  rfl
theorem wK {a b x:Tm} (h:i7 a b=true) (z:nY b x=true):nY a x=true:=by rw [jj] at h;rw [uB] at z ⊢;omega
theorem uA {a b x:Tm} (h:i7 a b=true) (z:nY a x=false):nY b x=false:=by rw [jj] at h;rw [uz] at z ⊢;omega
theorem vm {a b:Tm}:(vG a b<0)↔nY a b=true:=by rw [<- JC];unfold ltOf;simp
theorem IR (x y:Tm) (w:World):Calls prog 133 #[.agg #[.int .i64 x.at_,.int .i64 x.id],.agg #[.int .i64 y.at_,.int .i64 y.id]] w fun e w'=>e=.returned (.int .i64 (vG x y))/\Below w.heap.size w w':=
 (IQ x y w).mono fun _ _ ⟨h,z⟩=>⟨h,pG z (KY _)⟩
theorem mZ (x y:Tm) (r:Int) (h:r=vG x y) (w:World):Calls prog 133 #[.agg #[.int .i64 x.at_,.int .i64 x.id],.agg #[.int .i64 y.at_,.int .i64 y.id]] w fun e w'=>e=.returned (.int .i64 r)/\Below w.heap.size w w':=by
 rw [h];exact IR x y w
def Kh (w:World) (X:List Tm) (x:Tm) (e:Ending) (w':World):Prop:=∃ (k:Nat) (f:Bool),e=.returned (.tuple #[.int .i64 (k:Int),.bool f])/\cutT X x k/\Below w.heap.size w w'
theorem bsTm (v:Value) (X:List Tm) (x:Tm) (w:World) (r:aK w 2 v (X.map Tm.cells)) (ho:j4 X) (hn:X.length<=1000000000000000):Calls prog 149 #[v,.agg #[.int .i64 x.at_,.int .i64 x.id],.func (.func 133) #[] #[]] w (Kh w X x):=by
 obtain ⟨a,c,rfl,l1,m1,n1,p1⟩:=aO Tm.zero r;have P1:=KL p1;have HO:=KL ho;unfold maxLen at m1;obtain ⟨E,I⟩:=x;have eg:∀ args w,(callFunc 133 args).run prog w=.ok (.enter 133 args) w:=enters_of func133 (by kernel_rfl) rfl;clear r p1 ho;go_in;go_wp2;go_loopw [9,10] (fun a b wr=>∃ i j:Nat,a=.int .i64 i/\b=.int .i64 j/\i<=j/\j<=X.length/\(∀ J,J<i->nY (X.getD J Tm.zero) ⟨E,I⟩=true)/\(∀ J,j<=J->J<X.length->nY (X.getD J Tm.zero) ⟨E,I⟩=false)/\Below w.heap.size w wr/\wr.cell? ⟨w.heap.size,0,none⟩=some (.int .i64 E)/\wr.cell? ⟨w.heap.size,1,none⟩=some (.int .i64 I)) (fun a b _=>(intOf b - intOf a).toNat)
 case atStart=>exact ⟨0,X.length,rfl,rfl,La _,KY _,fun J hk=>by omega,fun J h1 h2=>by omega,(KM _ _).alloc (KY _) _,by go_simp,by go_simp⟩
 case round=>
  obtain ⟨i,j,rfl,rfl,ab,hj,h1,h2,hb,t0,t1⟩:=hrel;have HB:=KL hb;have H1:=KL h1;have H2:=KL h2;have hz:=bV t0;clear hb h1 h2;rcases (show i<j\/i=j by omega) with a4|rfl
  ·have a7:(i:Int)<(j:Int):=by omega
   obtain ⟨h,hh⟩:∃ h,h=(i+j) / 2:=⟨_,rfl⟩;have a6:i<=h:=by omega
   have a9:h<j:=by omega
   have aa:((i:Int)+(j:Int)) / 2=(h:Int):=by omega
   have a3:h<X.length:=by omega
   obtain ⟨b0,o0,rfl,a2,Y⟩:=P1.out (by intro h';rw [h'] at a3;simp at a3);obtain ⟨Z,hs⟩:∃ Z,Z=X.getD h Tm.zero:=⟨_,rfl⟩;have a0:=Y h 0 a3 (by omega);have a1:=Y h 1 a3 (by omega);rw [<- hs] at a0 a1;have HS:=KL hs;obtain ⟨U,W⟩:=Z;simp only [Tm.cells,Lb,Lc,Nat.add_zero] at a0 a1;have a0:=ah HB.out a0 a2;have a1:=ah HB.out a1 a2;have i0:(0:Int)<=(h:Int):=by omega
   have i2:(0:Int)<=(i:Int)+(j:Int):=by omega
   have i3:(i:Int)+(j:Int)<=4000000000000000:=by omega
   have i1:(h:Int)<(X.length:Int):=by omega
   clear hs Y hh;obtain ⟨r,hr⟩:∃ r,r=vG ⟨U,W⟩ ⟨E,I⟩:=⟨_,rfl⟩;have HR:=KL hr;clear hr;by_cases hsp:nY ⟨U,W⟩ ⟨E,I⟩=true
   ·have a8:r<0:=by rw [HR.out];exact vm.2 hsp
    have a5:=KL hsp;clear hsp;go_wp2_with fail;refine Zr (fun z=>z.cell? ⟨b0,o0+h*2,none⟩=some (.int .i64 U)/\z.cell? ⟨b0,o0+h*2+1,none⟩=some (.int .i64 W)/\z.cell? ⟨w.heap.size,0,none⟩=some (.int .i64 E)/\z.cell? ⟨w.heap.size,1,none⟩=some (.int .i64 I)) (fun hHeld=>?_);refine eY 0 ?_;refine dl 4 ?_;refine Z1 6 (fun K hK=>?_);go_simp;(go_at_call 133;refine (mZ ⟨U,W⟩ ⟨E,I⟩ r HR.out _).mono ?_;rintro e w2 ⟨rfl,hb2⟩);(try go_wp2_with fail);refine Zk hK fun hHeld=>?_;clear hK K;refine Zt 7 ?_;refine Zd ?_;have hbD:Below wr.heap.size wr w2:=(aM (n:=1) (KM wr.heap.size wr)).trans (hb2.mono (by simp));have t0:=ah hbD t0 hz;have t1:=ah hbD t1 hz;have HB2:=KL (HB.out.trans (hbD.mono HB.out.size));clear hbD hb2 a0 a1;go_wp2;go_roundw
    case rel=>
     refine ⟨h+1,j,by go_num,rfl,by omega,hj,fun J hk=>?_,H2.out,HB2.out,t0,t1⟩;exact wK (oL HO.out (show J<=h by omega) a3) (by rw [<- HS.out];exact a5.out)
    case measure=>simp [intOf];omega
   ·have a8:¬ r<0:=by rw [HR.out];exact fun h=>hsp (vm.1 h)
    have a5:=KL (show nY ⟨U,W⟩ ⟨E,I⟩=false by simpa using hsp);clear hsp;go_wp2_with fail;refine Zr (fun z=>z.cell? ⟨b0,o0+h*2,none⟩=some (.int .i64 U)/\z.cell? ⟨b0,o0+h*2+1,none⟩=some (.int .i64 W)/\z.cell? ⟨w.heap.size,0,none⟩=some (.int .i64 E)/\z.cell? ⟨w.heap.size,1,none⟩=some (.int .i64 I)) (fun hHeld=>?_);refine eY 0 ?_;refine dl 4 ?_;refine Z1 6 (fun K hK=>?_);go_simp;(go_at_call 133;refine (mZ ⟨U,W⟩ ⟨E,I⟩ r HR.out _).mono ?_;rintro e w2 ⟨rfl,hb2⟩);(try go_wp2_with fail);refine Zk hK fun hHeld=>?_;clear hK K;refine Zt 7 ?_;refine Zd ?_;have hbD:Below wr.heap.size wr w2:=(aM (n:=1) (KM wr.heap.size wr)).trans (hb2.mono (by simp));have t0:=ah hbD t0 hz;have t1:=ah hbD t1 hz;have HB2:=KL (HB.out.trans (hbD.mono HB.out.size));clear hbD hb2 a0 a1;go_wp2;go_roundw
    case rel=>
     refine ⟨i,h,rfl,rfl,a6,by omega,H1.out,fun J h3 h4=>?_,HB2.out,t0,t1⟩;exact uA (oL HO.out h3 h4) (by rw [<- HS.out];exact a5.out)
    case measure=>simp [intOf];omega
  ·have HC:=KL (show cutT X ⟨E,I⟩ i from ⟨hj,H1.out,H2.out⟩);have hge:¬ (i:Int)<(i:Int):=by omega
   rcases (show i<X.length\/i=X.length by omega) with a4|heq
   ·have a7:(i:Int)<(X.length:Int):=by omega
    obtain ⟨b0,o0,rfl,a2,Y⟩:=P1.out (by intro h';rw [h'] at a4;simp at a4);obtain ⟨Z,hs⟩:∃ Z,Z=X.getD i Tm.zero:=⟨_,rfl⟩;have a0:=Y i 0 a4 (by omega);have a1:=Y i 1 a4 (by omega);rw [<- hs] at a0 a1;obtain ⟨U,W⟩:=Z;simp only [Tm.cells,Lb,Lc,Nat.add_zero] at a0 a1;have a0:=ah HB.out a0 a2;have a1:=ah HB.out a1 a2;have i0:(0:Int)<=(i:Int):=by omega
    obtain ⟨r,hr⟩:∃ r,r=vG ⟨U,W⟩ ⟨E,I⟩:=⟨_,rfl⟩;have HR:=KL hr;clear hs Y hr;go_wp2_with fail;refine Zr (fun z=>z.cell? ⟨b0,o0+i*2,none⟩=some (.int .i64 U)/\z.cell? ⟨b0,o0+i*2+1,none⟩=some (.int .i64 W)/\z.cell? ⟨w.heap.size,0,none⟩=some (.int .i64 E)/\z.cell? ⟨w.heap.size,1,none⟩=some (.int .i64 I)) (fun hHeld=>?_);refine eD 0 ?_;refine dl 8 ?_;refine Zt 10 ?_;refine Z1 11 (fun K hK=>?_);go_simp;(go_at_call 133;refine (mZ ⟨U,W⟩ ⟨E,I⟩ r HR.out _).mono ?_;rintro e w2 ⟨rfl,hb2⟩);exact Q51
   ·exact Q74
theorem EY {X:List Tm} (J:∀ k,k+1<X.length->nY (X.getD (k+1) Tm.zero) (X.getD k Tm.zero)=false):j4 X:=by
 have K:∀ h z,z<=h->h<X.length->i7 (X.getD z Tm.zero) (X.getD h Tm.zero)=true:=by
  intro h
  induction h with
  | zero=>
   intro z I E;obtain rfl:z=0:=by omega
   unfold i7;rw [mg]
   rfl
  | succ h ih=>
   intro z I E;by_cases h':z=h+1
   ·subst h';unfold i7;rw [mg]
    rfl
   ·refine qI _ _ _ (ih z (by omega) (by omega)) ?_;unfold i7;rw [J h E]
    rfl
 refine List.pairwise_iff_getElem.2 fun z h I E U=>?_;have:=K h z (by omega) E;simpa [List.getD,I,E] using this
theorem FH (v:Value) (X:List Tm) (w:World) (r0:aK w 2 v (X.map Tm.cells)) (hn:X.length<=1000000000000000) (r:Bool) (hr:(j4 X/\r=true)\/(¬ j4 X/\r=false)):Calls prog 132 #[v,.func (.func 133) #[] #[]] w fun e w'=>e=.returned (.bool r)/\Below w.heap.size w w':=by
 obtain ⟨a,c,rfl,l1,m1,n1,p1⟩:=aO Tm.zero r0;have HR:=KL hr;have eg:∀ args w,(callFunc 133 args).run prog w=.ok (.enter 133 args) w:=enters_of func133 (by kernel_rfl) rfl;unfold maxLen at m1;clear r0 hr;by_cases hX:X=[]
 ·obtain rfl:r=true:=by
   rcases HR.out with ⟨_,h⟩|⟨h,_⟩
   ·exact h
   ·exact absurd (by rw [hX];exact List.Pairwise.nil) h
  subst hX;clear HR p1;go_in;go_wp2;refine wp_loop_rounds 1 ?_;rw [rounds_succ];go_wp2
  all_goals first|(go_ret;exact ⟨rfl,Zb⟩)|exact Zx
 ·obtain ⟨b0,o0,rfl,a2,q1⟩:=p1 hX;have Q1:=KL q1;obtain ⟨n,hl⟩:∃ n,X.length=n+1:=⟨X.length - 1,by have:=List.length_pos_iff.2 hX;omega⟩;rw [hl];have HL:=KL hl;have a7:n+1<=X.length:=by omega
  have a8:X.length<=n+1:=by omega
  clear p1 q1 hl hX;go_in;go_wp2;go_loopw [5] (fun i wr=>∃ k:Nat,k<=n/\i=.int .i64 k/\(∀ E,k<=E->E+1<X.length->nY (X.getD (E+1) Tm.zero) (X.getD E Tm.zero)=false)/\Below w.heap.size w wr) (fun i _=>(intOf i).toNat)
  case atStart=>exact ⟨n,KY _,by go_num,fun E h1 Z=>by omega,KM _ _⟩
  case round=>
   obtain ⟨k,hk,rfl,a5,I⟩:=hrel;have HA:=KL a5;have HB:=KL I;rcases (show k=0\/∃ z,k=z+1 by rcases k with _|z;exact Or.inl rfl;exact Or.inr ⟨z,rfl⟩) with hk0|⟨z,rfl⟩
   ·obtain rfl:r=true:=by
     rcases HR.out with ⟨_,h⟩|⟨h,_⟩
     ·exact h
     ·exact absurd (EY fun E hm=>HA.out E (by omega) hm) h
    clear HR I a5;subst hk0;go_wp2
    all_goals first|(go_ret;exact ⟨rfl,HB.out⟩)|exact Zx
   ·obtain ⟨s,hs⟩:∃ s,s=X.getD (z+1) Tm.zero:=⟨_,rfl⟩;obtain ⟨t,ht⟩:∃ t,t=X.getD z Tm.zero:=⟨_,rfl⟩;have a0:=Q1.out (z+1) 0 (by omega) (by omega);have a1:=Q1.out (z+1) 1 (by omega) (by omega);have d0:=Q1.out z 0 (by omega) (by omega);have d1:=Q1.out z 1 (by omega) (by omega);rw [<- hs] at a0 a1;rw [<- ht] at d0 d1;have HS:=KL hs;have HT:=KL ht;obtain ⟨J,U⟩:=s;obtain ⟨W,Y⟩:=t;simp only [Tm.cells,Lb,Lc,Nat.add_zero] at a0 a1 d0 d1;have a0:=ah I a0 a2;have a1:=ah I a1 a2;have d0:=ah I d0 a2;have d1:=ah I d1 a2;have a6:=I.size;obtain ⟨x,hx⟩:∃ x,x=vG ⟨J,U⟩ ⟨W,Y⟩:=⟨_,rfl⟩;have HX:=KL hx;have aa:(0:Int)<(z:Int)+1:=by omega
    have ab:(z:Int)+1<(n:Int)+1:=by omega
    have ac:(z:Int)<(n:Int)+1:=by omega
    have a9:(0:Int)<=(z:Int):=by omega
    have ad:(0:Int)<=(z:Int)+1:=by omega
    have af:((z:Int)+1).toNat=z+1:=by omega
    have ag:IntKind.i64.wrap (z:Int)=(z:Int):=LK _ (by omega);clear hs ht I a5 hx;by_cases hneg:x<0
    ·obtain rfl:r=false:=by
      rcases HR.out with ⟨h,_⟩|⟨_,h⟩
      ·have h1:nY ⟨J,U⟩ ⟨W,Y⟩=true:=vm.1 (by rw [<- HX.out];exact hneg);have Z:=oL h (show z<=z+1 by omega) (by omega);rw [<- HS.out,<- HT.out] at Z;unfold i7 at Z;rw [h1] at Z
       cases Z
      ·exact h
     go_wp2_with fail;refine Zr (fun w'=>w'.cell? ⟨b0,o0+(z+1)*2,none⟩=some (.int .i64 J)/\w'.cell? ⟨b0,o0+(z+1)*2+1,none⟩=some (.int .i64 U)/\w'.cell? ⟨b0,o0+z*2,none⟩=some (.int .i64 W)/\w'.cell? ⟨b0,o0+z*2+1,none⟩=some (.int .i64 Y)) (fun hHeld=>?_);refine eD 0 ?_;refine dl 8 ?_;refine Z1 10 (fun K hK=>?_);go_simp;(go_at_call 133;refine (mZ ⟨J,U⟩ ⟨W,Y⟩ x HX.out _).mono ?_;rintro e w2 ⟨rfl,hb2⟩);(try go_wp2_with fail);refine Zk hK fun hHeld=>?_;clear hK K;refine Zt 11 ?_;refine Zd ?_;have a4:=KL (HB.out.trans (((aM (n:=1) (KM wr.heap.size wr)).trans (hb2.mono (by simp))).mono HB.out.size));clear hb2 a0 a1 d0 d1;go_wp2
     all_goals first|(go_ret;exact ⟨rfl,a4.out⟩)|exact Zx
    ·have HN:=KL (show nY ⟨J,U⟩ ⟨W,Y⟩=false by
      cases h:nY ⟨J,U⟩ ⟨W,Y⟩ with
      | false=>rfl
      | true=>exact absurd (by rw [HX.out];exact vm.2 h) hneg)
     go_wp2_with fail;refine Zr (fun w'=>w'.cell? ⟨b0,o0+(z+1)*2,none⟩=some (.int .i64 J)/\w'.cell? ⟨b0,o0+(z+1)*2+1,none⟩=some (.int .i64 U)/\w'.cell? ⟨b0,o0+z*2,none⟩=some (.int .i64 W)/\w'.cell? ⟨b0,o0+z*2+1,none⟩=some (.int .i64 Y)) (fun hHeld=>?_);refine eD 0 ?_;refine dl 8 ?_;refine Z1 10 (fun K hK=>?_);go_simp;(go_at_call 133;refine (mZ ⟨J,U⟩ ⟨W,Y⟩ x HX.out _).mono ?_;rintro e w2 ⟨rfl,hb2⟩);(try go_wp2_with fail);refine Zk hK fun hHeld=>?_;clear hK K;refine Zt 11 ?_;refine Zd ?_;have a4:=KL (HB.out.trans (((aM (n:=1) (KM wr.heap.size wr)).trans (hb2.mono (by simp))).mono HB.out.size));clear hb2 a0 a1 d0 d1;go_wp2;go_roundw
     case rel=>
      refine ⟨z,by omega,by go_num,fun E h1 Z=>?_,a4.out⟩;rcases (show E=z\/z+1<=E by omega) with rfl|h3
      ·rw [<- HS.out,<- HT.out];exact HN.out
      ·exact HA.out E h3 Z
     case measure=>simp [intOf]
def pY (x y:Sp):Int:=orI (dE x.hash y.hash) (dE x.backend y.backend)
theorem lK (x y:Sp):ltOf pY x y=tj x y:=by
 unfold ltOf pY orI dE tj;by_cases h1:x.hash<y.hash
 ·simp [h1]
 ·by_cases h2:y.hash<x.hash
  ·have h:¬ x.hash=y.hash:=by omega
   simp [h1,h2,h]
  ·have h:x.hash=y.hash:=by omega
   by_cases h4:x.backend<y.backend
   ·simp [h,h4]
   ·by_cases h5:y.backend<x.backend<;>simp [h,h4,h5]
theorem Bf (x y:Sp) (W:World):Calls prog 121 #[.agg (Sp.cells x).toArray,.agg (Sp.cells y).toArray] W fun e w'=>e=.returned (.int .i64 (pY x y))/\∃ q os',w'=Go.Sort.grow (W.drewN q) os':=by
 obtain ⟨z,E⟩:=x;obtain ⟨y0,y1⟩:=y;unfold Sp.cells;go_in;go_wp2_with fail;refine Zr (fun w':World=>w'.cell? ⟨W.heap.size,0,none⟩=some (.int .i64 z)/\w'.cell? ⟨W.heap.size,1,none⟩=some (.int .i64 E)/\w'.cell? ⟨W.heap.size+1,0,none⟩=some (.int .i64 y0)/\w'.cell? ⟨W.heap.size+1,1,none⟩=some (.int .i64 y1)) (fun I=>?_) (by (try dsimp only);((try obtain ⟨J,U,Y,Z⟩:=I);refine ⟨?_,?_,?_,?_⟩<;>first|assumption|(exact aI _ ‹_›)|(simp;done)));refine eY 0 ?_;refine eY 5 ?_;refine Z1 4 (fun K hK=>?_);go_simp;(first|(go_at_call 157;refine (DE _ _ _).mono ?_;rintro e w' ⟨rfl,rfl⟩;(try dsimp only))|(go_at_call 156;refine (tZ (W.heap.size+1+1) (dE z y0) (dE E y1) _ (by exact (ae (aB (w:=World.alloc (World.alloc W _) _) (k:=W.heap.size+1+1) (.cells #[.int .i64 (dE z y0),.int .i64 (dE E y1)] 3) (by simp)) 0)) (by exact (ae (aB (w:=World.alloc (World.alloc W _) _) (k:=W.heap.size+1+1) (.cells #[.int .i64 (dE z y0),.int .i64 (dE E y1)] 3) (by simp)) 1))).mono ?_;rintro e w' ⟨rfl,rfl⟩;(try dsimp only)));(try go_wp2_with fail);refine Zk hK (hS:=by (try dsimp only);((try obtain ⟨J,U,Y,Z⟩:=I);refine ⟨?_,?_,?_,?_⟩<;>first|assumption|(exact aI _ ‹_›)|(simp;done))) fun I=>?_;clear hK K;refine Z1 9 (fun K hK=>?_);go_simp;(first|(go_at_call 157;refine (DE _ _ _).mono ?_;rintro e w' ⟨rfl,rfl⟩;(try dsimp only))|(go_at_call 156;refine (tZ (W.heap.size+1+1) (dE z y0) (dE E y1) _ (by exact (ae (aB (w:=World.alloc (World.alloc W _) _) (k:=W.heap.size+1+1) (.cells #[.int .i64 (dE z y0),.int .i64 (dE E y1)] 3) (by simp)) 0)) (by exact (ae (aB (w:=World.alloc (World.alloc W _) _) (k:=W.heap.size+1+1) (.cells #[.int .i64 (dE z y0),.int .i64 (dE E y1)] 3) (by simp)) 1))).mono ?_;rintro e w' ⟨rfl,rfl⟩;(try dsimp only)));(try go_wp2_with fail);refine Zk hK (hS:=by (try dsimp only);((try obtain ⟨J,U,Y,Z⟩:=I);refine ⟨?_,?_,?_,?_⟩<;>first|assumption|(exact aI _ ‹_›)|(simp;done))) fun I=>?_;clear hK K;refine Z1 10 (fun K hK=>?_);go_simp;refine Zk hK (hS:=by (try dsimp only);((try obtain ⟨J,U,Y,Z⟩:=I);refine ⟨?_,?_,?_,?_⟩<;>first|assumption|(exact aI _ ‹_›)|(simp;done))) fun I=>?_;clear hK K;refine Z1 11 (fun K hK=>?_);go_simp;(first|(go_at_call 157;refine (DE _ _ _).mono ?_;rintro e w' ⟨rfl,rfl⟩;(try dsimp only))|(go_at_call 156;refine (tZ (W.heap.size+1+1) (dE z y0) (dE E y1) _ (by exact (ae (aB (w:=World.alloc (World.alloc W _) _) (k:=W.heap.size+1+1) (.cells #[.int .i64 (dE z y0),.int .i64 (dE E y1)] 3) (by simp)) 0)) (by exact (ae (aB (w:=World.alloc (World.alloc W _) _) (k:=W.heap.size+1+1) (.cells #[.int .i64 (dE z y0),.int .i64 (dE E y1)] 3) (by simp)) 1))).mono ?_;rintro e w' ⟨rfl,rfl⟩;(try dsimp only)));(try go_wp2_with fail);refine Zk hK (hS:=by (try dsimp only);((try obtain ⟨J,U,Y,Z⟩:=I);refine ⟨?_,?_,?_,?_⟩<;>first|assumption|(exact aI _ ‹_›)|(simp;done))) fun I=>?_;clear hK K;refine Zt 12 ?_;refine Zd ?_;go_wp2
 all_goals (go_ret;refine ⟨rfl,1,#[.cells #[.int .i64 z,.int .i64 E] 179,.cells #[.int .i64 y0,.int .i64 y1] 179,.cells #[.int .i64 (dE z y0),.int .i64 (dE E y1)] 3],?_⟩;rw [alloc_eq_grow,alloc_eq_grow,alloc_eq_grow,grow_grow,grow_grow];rfl)
def tY (X:List Sp) (x:Sp) (k:Nat):Prop:=k<=X.length/\(∀ i,i<k->tj (X.getD i Sp.zero) x=true)/\(∀ i,k<=i->i<X.length->tj (X.getD i Sp.zero) x=false)
theorem xE {X:List Sp} (J:Hs X) {i j:Nat} (K:i<=j) (z:j<X.length):jm (X.getD i Sp.zero) (X.getD j Sp.zero)=true:=by
 have E:X.getD i Sp.zero=X[i]:=by simp [List.getD,show i<X.length by omega]
 have I:X.getD j Sp.zero=X[j]:=by simp [List.getD,z]
 rw [E,I];rcases Nat.lt_or_ge i j with h|h
 ·exact List.pairwise_iff_getElem.1 J i j (by omega) z h
 ·have:i=j:=by omega
  subst this;unfold jm;rw [zo]
  rfl
theorem wS {a b x:Sp} (h:jm a b=true) (z:tj b x=true):tj a x=true:=by rw [kA] at h;rw [qj] at z ⊢;omega
theorem uF {a b x:Sp} (h:jm a b=true) (z:tj a x=false):tj b x=false:=by rw [kA] at h;rw [mm] at z ⊢;omega
theorem Kk {a b:Sp}:(pY a b<0)↔tj a b=true:=by rw [<- lK];unfold ltOf;simp
theorem orderB (x y:Sp) (w:World):Calls prog 121 #[.agg #[.int .i64 x.hash,.int .i64 x.backend],.agg #[.int .i64 y.hash,.int .i64 y.backend]] w fun e w'=>e=.returned (.int .i64 (pY x y))/\Below w.heap.size w w':=
 (Bf x y w).mono fun _ _ ⟨h,z⟩=>⟨h,pG z (KY _)⟩
theorem zF (x y:Sp) (r:Int) (h:r=pY x y) (w:World):Calls prog 121 #[.agg #[.int .i64 x.hash,.int .i64 x.backend],.agg #[.int .i64 y.hash,.int .i64 y.backend]] w fun e w'=>e=.returned (.int .i64 r)/\Below w.heap.size w w':=by
 rw [h];exact orderB x y w
def BsPost (w:World) (X:List Sp) (x:Sp) (e:Ending) (w':World):Prop:=∃ (k:Nat) (f:Bool),e=.returned (.tuple #[.int .i64 (k:Int),.bool f])/\tY X x k/\Below w.heap.size w w'
theorem bsSp (v:Value) (X:List Sp) (x:Sp) (w:World) (r:aK w 2 v (X.map Sp.cells)) (ho:Hs X) (hn:X.length<=1000000000000000):Calls prog 161 #[v,.agg #[.int .i64 x.hash,.int .i64 x.backend],.func (.func 121) #[] #[]] w (BsPost w X x):=by
 obtain ⟨a,c,rfl,l1,m1,n1,p1⟩:=aO Sp.zero r;have P1:=KL p1;have HO:=KL ho;unfold maxLen at m1;obtain ⟨E,I⟩:=x;have eg:∀ args w,(callFunc 121 args).run prog w=.ok (.enter 121 args) w:=enters_of func121 (by kernel_rfl) rfl;clear r p1 ho;go_in;go_wp2;go_loopw [9,10] (fun a b wr=>∃ i j:Nat,a=.int .i64 i/\b=.int .i64 j/\i<=j/\j<=X.length/\(∀ J,J<i->tj (X.getD J Sp.zero) ⟨E,I⟩=true)/\(∀ J,j<=J->J<X.length->tj (X.getD J Sp.zero) ⟨E,I⟩=false)/\Below w.heap.size w wr/\wr.cell? ⟨w.heap.size,0,none⟩=some (.int .i64 E)/\wr.cell? ⟨w.heap.size,1,none⟩=some (.int .i64 I)) (fun a b _=>(intOf b - intOf a).toNat)
 case atStart=>exact ⟨0,X.length,rfl,rfl,La _,KY _,fun J hk=>by omega,fun J h1 h2=>by omega,(KM _ _).alloc (KY _) _,by go_simp,by go_simp⟩
 case round=>
  obtain ⟨i,j,rfl,rfl,ab,hj,h1,h2,hb,t0,t1⟩:=hrel;have HB:=KL hb;have H1:=KL h1;have H2:=KL h2;have hz:=bV t0;clear hb h1 h2;rcases (show i<j\/i=j by omega) with a4|rfl
  ·have a7:(i:Int)<(j:Int):=by omega
   obtain ⟨h,hh⟩:∃ h,h=(i+j) / 2:=⟨_,rfl⟩;have a6:i<=h:=by omega
   have a9:h<j:=by omega
   have aa:((i:Int)+(j:Int)) / 2=(h:Int):=by omega
   have a3:h<X.length:=by omega
   obtain ⟨b0,o0,rfl,a2,Y⟩:=P1.out (by intro h';rw [h'] at a3;simp at a3);obtain ⟨Z,hs⟩:∃ Z,Z=X.getD h Sp.zero:=⟨_,rfl⟩;have a0:=Y h 0 a3 (by omega);have a1:=Y h 1 a3 (by omega);rw [<- hs] at a0 a1;have HS:=KL hs;obtain ⟨U,W⟩:=Z;simp only [Sp.cells,Lb,Lc,Nat.add_zero] at a0 a1;have a0:=ah HB.out a0 a2;have a1:=ah HB.out a1 a2;have i0:(0:Int)<=(h:Int):=by omega
   have i2:(0:Int)<=(i:Int)+(j:Int):=by omega
   have i3:(i:Int)+(j:Int)<=4000000000000000:=by omega
   have i1:(h:Int)<(X.length:Int):=by omega
   clear hs Y hh;obtain ⟨r,hr⟩:∃ r,r=pY ⟨U,W⟩ ⟨E,I⟩:=⟨_,rfl⟩;have HR:=KL hr;clear hr;by_cases hsp:tj ⟨U,W⟩ ⟨E,I⟩=true
   ·have a8:r<0:=by rw [HR.out];exact Kk.2 hsp
    have a5:=KL hsp;clear hsp;go_wp2_with fail;refine Zr (fun z=>z.cell? ⟨b0,o0+h*2,none⟩=some (.int .i64 U)/\z.cell? ⟨b0,o0+h*2+1,none⟩=some (.int .i64 W)/\z.cell? ⟨w.heap.size,0,none⟩=some (.int .i64 E)/\z.cell? ⟨w.heap.size,1,none⟩=some (.int .i64 I)) (fun hHeld=>?_);refine eY 0 ?_;refine dl 4 ?_;refine Z1 6 (fun K hK=>?_);go_simp;(go_at_call 121;refine (zF ⟨U,W⟩ ⟨E,I⟩ r HR.out _).mono ?_;rintro e w2 ⟨rfl,hb2⟩);(try go_wp2_with fail);refine Zk hK fun hHeld=>?_;clear hK K;refine Zt 7 ?_;refine Zd ?_;have hbD:Below wr.heap.size wr w2:=(aM (n:=1) (KM wr.heap.size wr)).trans (hb2.mono (by simp));have t0:=ah hbD t0 hz;have t1:=ah hbD t1 hz;have HB2:=KL (HB.out.trans (hbD.mono HB.out.size));clear hbD hb2 a0 a1;go_wp2;go_roundw
    case rel=>
     refine ⟨h+1,j,by go_num,rfl,by omega,hj,fun J hk=>?_,H2.out,HB2.out,t0,t1⟩;exact wS (xE HO.out (show J<=h by omega) a3) (by rw [<- HS.out];exact a5.out)
    case measure=>simp [intOf];omega
   ·have a8:¬ r<0:=by rw [HR.out];exact fun h=>hsp (Kk.1 h)
    have a5:=KL (show tj ⟨U,W⟩ ⟨E,I⟩=false by simpa using hsp);clear hsp;go_wp2_with fail;refine Zr (fun z=>z.cell? ⟨b0,o0+h*2,none⟩=some (.int .i64 U)/\z.cell? ⟨b0,o0+h*2+1,none⟩=some (.int .i64 W)/\z.cell? ⟨w.heap.size,0,none⟩=some (.int .i64 E)/\z.cell? ⟨w.heap.size,1,none⟩=some (.int .i64 I)) (fun hHeld=>?_);refine eY 0 ?_;refine dl 4 ?_;refine Z1 6 (fun K hK=>?_);go_simp;(go_at_call 121;refine (zF ⟨U,W⟩ ⟨E,I⟩ r HR.out _).mono ?_;rintro e w2 ⟨rfl,hb2⟩);(try go_wp2_with fail);refine Zk hK fun hHeld=>?_;clear hK K;refine Zt 7 ?_;refine Zd ?_;have hbD:Below wr.heap.size wr w2:=(aM (n:=1) (KM wr.heap.size wr)).trans (hb2.mono (by simp));have t0:=ah hbD t0 hz;have t1:=ah hbD t1 hz;have HB2:=KL (HB.out.trans (hbD.mono HB.out.size));clear hbD hb2 a0 a1;go_wp2;go_roundw
    case rel=>
     refine ⟨i,h,rfl,rfl,a6,by omega,H1.out,fun J h3 h4=>?_,HB2.out,t0,t1⟩;exact uF (xE HO.out h3 h4) (by rw [<- HS.out];exact a5.out)
    case measure=>simp [intOf];omega
  ·have HC:=KL (show tY X ⟨E,I⟩ i from ⟨hj,H1.out,H2.out⟩);have hge:¬ (i:Int)<(i:Int):=by omega
   rcases (show i<X.length\/i=X.length by omega) with a4|heq
   ·have a7:(i:Int)<(X.length:Int):=by omega
    obtain ⟨b0,o0,rfl,a2,Y⟩:=P1.out (by intro h';rw [h'] at a4;simp at a4);obtain ⟨Z,hs⟩:∃ Z,Z=X.getD i Sp.zero:=⟨_,rfl⟩;have a0:=Y i 0 a4 (by omega);have a1:=Y i 1 a4 (by omega);rw [<- hs] at a0 a1;obtain ⟨U,W⟩:=Z;simp only [Sp.cells,Lb,Lc,Nat.add_zero] at a0 a1;have a0:=ah HB.out a0 a2;have a1:=ah HB.out a1 a2;have i0:(0:Int)<=(i:Int):=by omega
    obtain ⟨r,hr⟩:∃ r,r=pY ⟨U,W⟩ ⟨E,I⟩:=⟨_,rfl⟩;have HR:=KL hr;clear hs Y hr;go_wp2_with fail;refine Zr (fun z=>z.cell? ⟨b0,o0+i*2,none⟩=some (.int .i64 U)/\z.cell? ⟨b0,o0+i*2+1,none⟩=some (.int .i64 W)/\z.cell? ⟨w.heap.size,0,none⟩=some (.int .i64 E)/\z.cell? ⟨w.heap.size,1,none⟩=some (.int .i64 I)) (fun hHeld=>?_);refine eD 0 ?_;refine dl 8 ?_;refine Zt 10 ?_;refine Z1 11 (fun K hK=>?_);go_simp;(go_at_call 121;refine (zF ⟨U,W⟩ ⟨E,I⟩ r HR.out _).mono ?_;rintro e w2 ⟨rfl,hb2⟩);exact Q51
   ·exact Q74
end
section
theorem qP {α:Type} {p:List α->Prop} (h:p []) (z:∀ L s,p L->p (L++[s])):∀ L,p L:=by
 intro L;rw [<- L.reverse_reverse]
 induction L.reverse with
 | nil=>exact h
 | cons s L ih=>rw [List.reverse_cons];exact z _ _ ih
def ku (h:List Int) (s:Sp):List Int:=if s.backend∈h then h else h++[s.backend]
def ep (L:List Sp):List Int:=L.foldl ku []
theorem iK (L:List Sp) (s:Sp):ep (L++[s])=ku (ep L) s:=by simp [ep]
theorem Ch (L:List Sp):(ep L).length<=L.length:=by
 refine qP (p:=fun L=>(ep L).length<=L.length) ?_ ?_ L
 ·simp [ep]
 ·intro L z h;rw [iK,Ll];unfold ku
  split
  ·omega
  ·rw [Ll];simp;omega
theorem Cg (L:List Sp) (b:Int):b∈ep L↔∃ s∈L,s.backend=b:=by
 refine qP (p:=fun L=>b∈ep L↔∃ s∈L,s.backend=b) ?_ ?_ L
 ·simp [ep]
 ·intro L s J;rw [iK]
  have E:b∈ku (ep L) s↔b∈ep L\/b=s.backend:=by
   unfold ku
   split
   ·constructor
    ·exact Or.inl
    ·rintro (E|rfl)
     ·exact E
     ·assumption
   ·simp
  rw [E,J];constructor
  ·rintro (⟨I,h,z⟩|rfl)
   ·exact ⟨I,by simp [h],z⟩
   ·exact ⟨s,by simp,rfl⟩
  ·rintro ⟨I,h,z⟩;rw [List.mem_append,List.mem_singleton] at h;rcases h with h|rfl
   ·exact Or.inl ⟨I,h,z⟩
   ·exact Or.inr z.symm
def zb (k:Nat) (X:List Sp):List Sp:=X.drop k++X.take k
theorem qo (k:Nat) (X:List Sp):(zb k X).length=X.length:=by
 unfold zb;rw [Ll,List.length_drop,Ls];omega
theorem IE {k:Nat} {X:List Sp} (z:k<=X.length) {i:Nat} (h:i<X.length):(zb k X).getD i Sp.zero=X.getD ((k+i) % X.length) Sp.zero:=by
 unfold zb;simp only [List.getD];by_cases h1:i<X.length - k
 ·rw [LR (by rw [List.length_drop];exact h1),List.getElem?_drop,Nat.mod_eq_of_lt (by omega)]
 ·rw [LU (by rw [List.length_drop];omega),List.length_drop,List.getElem?_take_of_lt (by omega)]
  have:(k+i) % X.length=i - (X.length - k):=by
   rw [Nat.mod_eq_sub_mod (by omega),Nat.mod_eq_of_lt (by omega)];omega
  rw [this]
def gZ (X:List Sp) (at_:Int):List Int:=ep (X.filter (fun s=>decide (at_<=s.hash))++X.filter (fun s=>decide (s.hash<at_)))
theorem Ai {X:List Sp} {at_:Int} {k:Nat} (h1:Rg1 X) (Z:tY X ⟨at_,-1⟩ k):zb k X=X.filter (fun s=>decide (at_<=s.hash))++X.filter (fun s=>decide (s.hash<at_)):=by
 obtain ⟨hk,ha,hb⟩:=Z;have J:X=X.take k++X.drop k:=(Lx k X).symm
 have K:∀ s∈X.take k,s.hash<at_:=by
  intro s h;obtain ⟨z,I,rfl⟩:=List.mem_iff_getElem.1 h;rw [Ls] at I;have:=ha z (by omega);rw [qj] at this;have hm:=h1 ((X.take k)[z]'(by rw [Ls];omega)) (List.mem_of_mem_take (Lp _));have E:X.getD z Sp.zero=(X.take k)[z]'(by rw [Ls];omega):=by simp [List.getD,show z<X.length by omega]
  rw [E] at this;simp only at this;omega
 have U:∀ s∈X.drop k,at_<=s.hash:=by
  intro s h;obtain ⟨z,I,rfl⟩:=List.mem_iff_getElem.1 h;rw [List.length_drop] at I;have:=hb (k+z) (by omega) (by omega);rw [mm] at this;have E:X.getD (k+z) Sp.zero=(X.drop k)[z]'(by rw [List.length_drop];omega):=by simp [List.getD,show k+z<X.length by omega]
  rw [E] at this;simp only at this;omega
 have W:X.filter (fun s=>decide (at_<=s.hash))=X.drop k:=by
  conv=>lhs;rw [J]
  rw [List.filter_append,List.filter_eq_nil_iff.2 (fun s h=>by have:=K s h;simp;omega),List.filter_eq_self.2 (fun s h=>by simpa using U s h)]
  rfl
 have Y:X.filter (fun s=>decide (s.hash<at_))=X.take k:=by
  conv=>lhs;rw [J]
  rw [List.filter_append,List.filter_eq_self.2 (fun s h=>by simpa using K s h),List.filter_eq_nil_iff.2 (fun s h=>by have:=U s h;simp;omega)];simp
 rw [W,Y]
 rfl
def CY (k:Nat):Int:=(zL (k % 256) (k / 256 % 256) (k / 65536 % 256) (k / 16777216):Nat)
def BK (X:List Sp) (key:Int) (L:List Int) (c:Int):Prop:=
 (¬ RgMay X/\L=[]/\c=6)\/(RgMay X/\(key<0\/4294967295<key)/\L=[]/\c=2)\/∃ k:Nat,RgMay X/\key=k/\k<4294967296/\L=gZ X (CY k)/\c=0
theorem RgMay.ord {X:List Sp} (h:RgMay X):Hs X:=by rw [h.2.2];exact qi _
end
end Go.Proofs.YtennppmadmgfoaaGreatDoor
