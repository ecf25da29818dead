/- Texts of the row's proof. Conditions: none. -/
import Derived.Test.YtennppmadmgfoaaGreatDoorK12
namespace Go.Proofs.YtennppmadmgfoaaGreatDoor
open Proofs.Tryz
set_option maxRecDepth 100000
set_option maxHeartbeats 8000000
section
open Go.RowKit
theorem qq {Q:World->Prop} (w:World) (h:∀ w',w'=w->Q w'):Q w:=h w rfl
def qJ (t x:Tm):Bool:=decide (t=x)
theorem Gf (v:Value) (L:List Tm) (E I:Int) (w:World) (r:aK w 2 v (L.map Tm.cells)):Calls prog 137 #[v,.agg #[.int .i64 E,.int .i64 I]] w fun e w'=>e=.returned (.int .i64 (aU (qJ ⟨E,I⟩) L))/\Below w.heap.size w w':=by
 obtain ⟨a,c,rfl,_,m1,_,p1⟩:=aO Tm.zero r;unfold maxLen at m1;have P1:=KL p1;clear r p1;go_in;go_wp2;refine qq _ ?_;intro J W
 have c0:J.cell? ⟨w.heap.size,0,none⟩=some (.int .i64 E):=by rw [W];exact ae (aB _ rfl) 0
 have c1:J.cell? ⟨w.heap.size,1,none⟩=some (.int .i64 I):=by rw [W];exact ae (aB _ rfl) 1
 have HB:=KL (show Below w.heap.size w J by rw [W];exact (KM _ _).alloc (KY _) _)
 have hz:w.heap.size<J.heap.size:=by rw [W];simp
 clear W;go_loopw [8] (fun i wr=>∃ z:Nat,z<=L.length/\i=.int .i64 z/\(∃ q,wr=J.drewN q)/\∀ x∈L.take z,qJ ⟨E,I⟩ x=false) (fun i _=>L.length - (intOf i).toNat)
 case atStart=>exact ⟨0,La _,rfl,⟨0,rfl⟩,by simp⟩
 case round=>
  obtain ⟨z,hk,rfl,⟨q,rfl⟩,a2⟩:=hrel;have Z:=KL a2;clear a2;have c0:=dn q c0;have c1:=dn q c1;rcases (show z<L.length\/L.length=z by omega) with K|a5
  ·have aa:(z:Int)<(L.length:Int):=by omega
   have p0:(0:Int)<=(z:Int):=by omega
   obtain ⟨b1,o1,rfl,a4,q1⟩:=P1.out (by intro h;rw [h] at K;simp at K);have a0:=q1 z 0 K (by omega);have a1:=q1 z 1 K (by omega);obtain ⟨s,hs⟩:∃ s,s=L.getD z Tm.zero:=⟨_,rfl⟩;rw [<- hs] at a0 a1;have HS:=KL hs;obtain ⟨Y,s1⟩:=s;simp only [Tm.cells,Lb,Lc,Nat.add_zero] at a0 a1;have a7:J.cell? ⟨b1,o1+z*2,none⟩=some (.int .i64 Y):=(HB.out.cell (p:=⟨b1,o1+z*2,none⟩) a4).trans a0;have a8:J.cell? ⟨b1,o1+z*2+1,none⟩=some (.int .i64 s1):=(HB.out.cell (p:=⟨b1,o1+z*2+1,none⟩) a4).trans a1;clear a0 a1;clear hs q1;by_cases U:E=Y/\I=s1
   ·obtain ⟨rfl,rfl⟩:=U;go_wp2_with fail;go_quiet (fail);go_wp2;go_ret;exact ⟨rI (lD (p:=qJ ⟨E,I⟩) K HS.out (by simp [qJ]) Z.out).symm,(by repeat (first|exact HB.out|refine aM ?_))⟩
   ·have a3:qJ ⟨E,I⟩ ⟨Y,s1⟩=false:=by simpa [qJ] using U
    have a6:=KL (nt (p:=qJ ⟨E,I⟩) K HS.out a3 Z.out);have hc:(E≠Y)\/(E=Y/\I≠s1):=by omega
    clear U a3;rcases hc with U|⟨rfl,U⟩
    all_goals
     go_wp2_with fail
     go_quiet (fail)
     go_wp2
     go_roundw
     case rel=>exact ⟨z+1,by omega,by go_num,⟨_,rfl⟩,a6.out⟩
     case measure=>simp [intOf];omega
  ·have a9:¬ (z:Int)<(L.length:Int):=by omega
   have HE:=KL (jN a5 Z.out);clear a5 Z;go_wp2
   all_goals first|(go_ret;exact ⟨rI HE.out.symm,(by repeat (first|exact HB.out|refine aM ?_))⟩)|exact Zx
theorem yA (v:Value) (L:List Tm) (t:Tm) (w:World) (r:aK w 2 v (L.map Tm.cells)) (q:Bool) (J:q=decide (t∈L)):Calls prog 96 #[v,.agg #[.int .i64 t.at_,.int .i64 t.id]] w fun e w'=>e=.returned (.bool q)/\Below w.heap.size w w':=by
 have U:∀ w',Below w.heap.size w w'->aK w' 2 v (L.map Tm.cells):=fun w' z=>aq r z;have K:=KL (fun w' z=>Gf v L t.at_ t.id w' (U w' z));obtain ⟨a,c,rfl,_⟩:=ap r;clear U r;obtain ⟨i,E⟩:∃ i,i=aU (qJ ⟨t.at_,t.id⟩) L:=⟨_,rfl⟩
 have hiq:q=decide (0<=i):=by
  rw [J,E];rcases bM (qJ ⟨t.at_,t.id⟩) L Tm.zero with ⟨e,Z⟩|⟨j,I,e,hp,_⟩
  ·rw [e]
   have:t∉L:=fun h=>by have:=Z t h;simp [qJ] at this
   simp [this]
  ·rw [e]
   have:t∈L:=by
    have W:t=L.getD j Tm.zero:=by simpa [qJ] using hp
    rw [W];simp only [List.getD,Lj I,LI];exact Lp I
   simp [this]
 rw [<- E] at K;clear E J
 cases hx:q with
 | true=>
  have Y:0<=i:=by rw [hx] at hiq;simpa using hiq.symm
  exact Q71
 | false=>
  have Y:decide (0<=i)=false:=by rw [hx] at hiq;exact hiq.symm
  exact Q71
theorem Fy (N:Nat) (Y:Addr) (hN:∀ args w,(callFunc N args).run prog w=.ok (.enter N args) w) (p:Nat->Bool) (z I c0:Nat) (X:List Value) (w:World) (a4:z<w.heap.size) (hn:X.length<=4611686018427387903) (Z:∀ i j,i<X.length->j<1->w.cell? ⟨z,I+i*1+j,none⟩=[X.getD i undef][j]?)
  (hf:∀ i,i<X.length->∀ w',Below w.heap.size w w'->Calls prog N #[X.getD i undef,.pointer (some Y)] w' fun e a5=>e=.returned (.bool (p i))/\Below w'.heap.size w' a5) :
  Calls prog 136 #[.slice (some ⟨z,I,none⟩) X.length c0,.func (.func N) #[] #[.pointer (some Y)]] w fun e w'=>e=.returned (.int .i64 (aU p (List.range X.length)))/\Below w.heap.size w w':=by
 have H1:=KL Z
 have HF:=KL hf
 have a8:X.length<=9223372036854775807:=by omega
 clear Z hf
 go_in
 go_wp2
 go_loopw [8] (fun i wr=>∃ k:Nat,k<=X.length/\i=.int .i64 k/\Below w.heap.size w wr/\∀ x∈(List.range X.length).take k,p x=false) (fun i _=>X.length - (intOf i).toNat)
 case atStart=>exact ⟨0,La _,rfl,KM _ _,fun x hx=>by simp at hx⟩
 case round=>
  obtain ⟨k,hk,rfl,hbel,a1⟩:=hrel;have HA:=KL a1;clear a1;rcases (show k<X.length\/X.length=k by omega) with E|heq
  ·have a7:(k:Int)<(X.length:Int):=by omega
   obtain ⟨o,K⟩:∃ o,o=X.getD k undef:=⟨_,rfl⟩;have a3:k<(List.range X.length).length:=by simpa using E
   have W:=KL (show k=(List.range X.length).getD k 0 by simp [List.getD,E]);have J:=KL (HF.out k E _ hbel);rw [<- K] at J
   have a0:wr.cell? ⟨z,I+k,none⟩=some o:=by
    have:=H1.out k 0 E (by omega);rw [hbel.cell (p:=⟨z,I+k,none⟩) a4,K];simpa using this
   clear K;have HB:=KL hbel;clear hbel;go_wp2_with fail;refine (J.out).mono ?_;rintro e w1 ⟨rfl,a2⟩;have B1:=KL (HB.out.trans (a2.mono HB.out.size));clear a2 HB J;by_cases hp:p k=true
   ·have HP:=KL hp;simp only [hp];clear hp;go_wp2;go_ret;exact ⟨rI (lD (p:=p) a3 W.out HP.out HA.out).symm,B1.out⟩
   ·have U:p k=false:=by simpa using hp
    have HA2:=KL (nt (p:=p) a3 W.out U HA.out);simp only [U];clear hp U HA;exact Q27
  ·have a6:¬ (k:Int)<(X.length:Int):=by omega
   have HE:=KL (jN (X:=List.range X.length) (by simpa using heq) HA.out);exact Q120
theorem Fz (N:Nat) (z:Addr) (a:Option Addr) (c:Nat) (w:World):Calls prog 136 #[.slice a 0 c,.func (.func N) #[] #[.pointer (some z)]] w fun e w'=>e=.returned (.int .i64 (-1))/\Below w.heap.size w w':=by
 go_in;exact Q24
theorem FB (N:Nat) (h:Addr) (K:∀ args w,(callFunc N args).run prog w=.ok (.enter N args) w) (p:Nat->Bool) (v:Value) (X:List Value) (w:World) (r:aK w 1 v (X.map fun x=>[x])) (Y:X.length<=4611686018427387903)
  (W:∀ i,i<X.length->∀ w',Below w.heap.size w w'->Calls prog N #[X.getD i undef,.pointer (some h)] w' fun e a0=>e=.returned (.bool (p i))/\Below w'.heap.size w' a0) :
  Calls prog 136 #[v,.func (.func N) #[] #[.pointer (some h)]] w fun e w'=>e=.returned (.int .i64 (aU p (List.range X.length)))/\Below w.heap.size w w':=by
 obtain ⟨I,E,rfl,l,m,n,z⟩:=aO undef r
 by_cases hX:X=[]
 ·subst hX;exact Fz N h I E w
 ·obtain ⟨J,Z,rfl,U,z⟩:=z hX;exact Fy N h K p J Z E X w U Y z W
theorem GI (N:Nat) (I:Addr) (Z:∀ args w,(callFunc N args).run prog w=.ok (.enter N args) w) (p:Nat->Bool) (v:Value) (X:List Value) (w:World) (r:aK w 1 v (X.map fun x=>[x])) (hn:X.length<=4611686018427387903)
  (K:∀ i,i<X.length->∀ w',Below w.heap.size w w'->Calls prog N #[X.getD i undef,.pointer (some I)] w' fun e a0=>e=.returned (.bool (p i))/\Below w'.heap.size w' a0) (W:(List.range X.length).any p=true) :
  Calls prog 94 #[v,.func (.func N) #[] #[.pointer (some I)]] w fun e w'=>e=.returned (.bool true)/\Below w.heap.size w w':=by
 have E:=KL (FB N I Z p v X w r hn K)
 have z:=iE p (List.range X.length)
 obtain ⟨a,c,rfl,_⟩:=ap r
 clear r K
 obtain ⟨i,U⟩:∃ i,i=aU p (List.range X.length):=⟨_,rfl⟩
 rw [<- U] at E z
 clear U
 have a1:0<=i:=z.1.1 W
 clear z W
 go_in
 go_wp2_with fail
 refine E.out.mono ?_
 rintro e w1 ⟨rfl,J⟩
 have Y:=KL J
 clear J E
 go_wp2
 all_goals first|(go_ret;exact ⟨rfl,Y.out⟩)|exact Zx
theorem flows1 (v:Value) (L:List Tm) (t:Tm) (b:Nat) (w:World) (r:aK w 2 v (L.map Tm.cells)) (z:w.cell? ⟨b,0,none⟩=some (.int .i64 t.at_)) (J:w.cell? ⟨b,1,none⟩=some (.int .i64 t.id)):Calls prog 95 #[v,.pointer (some ⟨b,0,none⟩)] w fun e w'=>e=.returned (.bool (decide (t∈L)))/\Below w.heap.size w w':=by
 have K:=KL (yA v L t w r _ rfl);obtain ⟨E,I,rfl,_⟩:=ap r;clear r;have U:=bV z;go_in;exact Q36
end
end Go.Proofs.YtennppmadmgfoaaGreatDoor
