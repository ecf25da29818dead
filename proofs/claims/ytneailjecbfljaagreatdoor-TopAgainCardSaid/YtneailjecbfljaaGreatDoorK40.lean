/- Texts of the row's proof. Conditions: none. -/
import Derived.Test.YtneailjecbfljaaGreatDoorK15
namespace Go.Proofs.YtneailjecbfljaaGreatDoor
set_option maxRecDepth 100000
set_option maxHeartbeats 8000000
section
open Go.RowKit
theorem pa {Q:World→Prop} (w:World) (h:∀ w',w'=w→Q w'):Q w:=h w rfl
def pA (t x:Tm):Bool:=decide (t=x)
theorem Dx (v:Value) (L:List Tm) (t0 t1:Int) (w:World) (r:aI w 2 v (L.map Tm.cells)):Calls Tryz.prog 134 #[v,.agg #[.int .i64 t0,.int .i64 t1]] w fun e w'=>e=.returned (.int .i64 (aQ (pA ⟨t0,t1⟩) L))∧Below w.heap.size w w':=by
 obtain ⟨a,c,rfl,_,m1,_,p1⟩:=aK Tm.zero r;unfold maxLen at m1;have P1:=Hp p1;clear r p1;go_enter Tryz.func134,Tryz.ntmps134;go_wp2;refine pa _ ?_;intro wb hwb
 have c0:wb.cell? ⟨w.heap.size,0,none⟩=some (.int .i64 t0):=by rw [hwb];exact ae (az _ rfl) 0
 have c1:wb.cell? ⟨w.heap.size,1,none⟩=some (.int .i64 t1):=by rw [hwb];exact ae (az _ rfl) 1
 have HB:=Hp (show Below w.heap.size w wb by rw [hwb];exact (Hq _ _).alloc (Hz _) _)
 have hz:w.heap.size<wb.heap.size:=by rw [hwb];simp
 clear hwb;go_loopw [8] (fun i wr=>∃ k:Nat,k≤L.length∧i=.int .i64 k∧(∃ q,wr=wb.drewN q)∧∀ x∈L.take k,pA ⟨t0,t1⟩ x=false) (fun i _=>L.length - (intOf i).toNat)
 case atStart=>exact ⟨0,I0 _,rfl,⟨0,rfl⟩,by simp⟩
 case round=>
  obtain ⟨k,hk,rfl,⟨q,rfl⟩,hall⟩:=hrel;have HA:=Hp hall;clear hall;have c0:=dh q c0;have c1:=dh q c1;rcases (show k<L.length∨L.length=k by omega) with hlt|heq
  ·have hlt':(k:Int)<(L.length:Int):=by omega
   have p0:(0:Int)≤(k:Int):=by omega
   obtain ⟨b1,o1,rfl,hb1,q1⟩:=P1.out (by intro h;rw [h] at hlt;simp at hlt);have a0:=q1 k 0 hlt (by omega);have a1:=q1 k 1 hlt (by omega);obtain ⟨s,hs⟩:∃ s,s=L.getD k Tm.zero:=⟨_,rfl⟩;rw [← hs] at a0 a1;have HS:=Hp hs;obtain ⟨s0,s1⟩:=s;simp only [Tm.cells,I1,I2,Nat.add_zero] at a0 a1;have a0':wb.cell? ⟨b1,o1+k*2,none⟩=some (.int .i64 s0):=(HB.out.cell (p:=⟨b1,o1+k*2,none⟩) hb1).trans a0;have a1':wb.cell? ⟨b1,o1+k*2+1,none⟩=some (.int .i64 s1):=(HB.out.cell (p:=⟨b1,o1+k*2+1,none⟩) hb1).trans a1;clear a0 a1;clear hs q1;by_cases he:t0=s0∧t1=s1
   ·obtain ⟨rfl,rfl⟩:=he;go_wp2_with fail;go_quiet (fail);go_wp2;go_ret;exact ⟨rI (kO (p:=pA ⟨t0,t1⟩) hlt HS.out (by simp [pA]) HA.out).symm,(by repeat (first|exact HB.out|refine aJ ?_))⟩
   ·have hb':pA ⟨t0,t1⟩ ⟨s0,s1⟩=false:=by simpa [pA] using he
    have HA2:=Hp (mA (p:=pA ⟨t0,t1⟩) hlt HS.out hb' HA.out);have hc:(t0≠s0)∨(t0=s0∧t1≠s1):=by omega
    clear he hb';rcases hc with he|⟨rfl,he⟩
    all_goals
     go_wp2_with fail
     go_quiet (fail)
     go_wp2
     go_roundw
     case rel=>exact ⟨k+1,by omega,by go_num,⟨_,rfl⟩,HA2.out⟩
     case measure=>simp [intOf];omega
  ·have hge:¬ (k:Int)<(L.length:Int):=by omega
   have HE:=Hp (jC heq HA.out);clear heq HA;go_wp2
   all_goals first|(go_ret;exact ⟨rI HE.out.symm,(by repeat (first|exact HB.out|refine aJ ?_))⟩)|exact Zx
theorem wO (v:Value) (L:List Tm) (t:Tm) (w:World) (r:aI w 2 v (L.map Tm.cells)) (q:Bool) (hq:q=decide (t∈L)):Calls Tryz.prog 93 #[v,.agg #[.int .i64 t.at_,.int .i64 t.id]] w fun e w'=>e=.returned (.bool q)∧Below w.heap.size w w':=by
 have hw:∀ w',Below w.heap.size w w'→aI w' 2 v (L.map Tm.cells):=fun w' hb=>au r hb;have K:=Hp (fun w' hb=>Dx v L t.at_ t.id w' (hw w' hb));obtain ⟨a,c,rfl,_⟩:=aq r;clear hw r;obtain ⟨i,hi⟩:∃ i,i=aQ (pA ⟨t.at_,t.id⟩) L:=⟨_,rfl⟩
 have hiq:q=decide (0≤i):=by
  rw [hq,hi];rcases bJ (pA ⟨t.at_,t.id⟩) L Tm.zero with ⟨e,hn⟩|⟨j,hj,e,hp,_⟩
  ·rw [e]
   have:t∉L:=fun h=>by have:=hn t h;simp [pA] at this
   simp [this]
  ·rw [e]
   have:t∈L:=by
    have e2:t=L.getD j Tm.zero:=by simpa [pA] using hp
    rw [e2];simp only [List.getD,I7 hj,Ip];exact Ib hj
   simp [this]
 rw [← hi] at K;clear hi hq
 cases hx:q with
 | true=>
  have hi0:0≤i:=by rw [hx] at hiq;simpa using hiq.symm
  exact Q73
 | false=>
  have hi0:decide (0≤i)=false:=by rw [hx] at hiq;exact hiq.symm
  exact Q73
theorem Dc (N:Nat) (cp:Addr) (hN:∀ args w,(callFunc N args).run Tryz.prog w=.ok (.enter N args) w) (p:Nat→Bool) (b0 o0 c0:Nat) (X:List Value) (w:World) (hb0:b0<w.heap.size) (hn:X.length≤4611686018427387903) (h1:∀ i j,i<X.length→j<1→w.cell? ⟨b0,o0+i*1+j,none⟩=[X.getD i undef][j]?)
  (hf:∀ i,i<X.length→∀ w',Below w.heap.size w w'→Calls Tryz.prog N #[X.getD i undef,.pointer (some cp)] w' fun e w''=>e=.returned (.bool (p i))∧Below w'.heap.size w' w'') :
  Calls Tryz.prog 133 #[.slice (some ⟨b0,o0,none⟩) X.length c0,.func (.func N) #[] #[.pointer (some cp)]] w fun e w'=>e=.returned (.int .i64 (aQ p (List.range X.length)))∧Below w.heap.size w w':=by
 have H1:=Hp h1
 have HF:=Hp hf
 have hn2:X.length≤9223372036854775807:=by omega
 clear h1 hf
 go_enter Tryz.func133,Tryz.ntmps133
 go_wp2
 go_loopw [8] (fun i wr=>∃ k:Nat,k≤X.length∧i=.int .i64 k∧Below w.heap.size w wr∧∀ x∈(List.range X.length).take k,p x=false) (fun i _=>X.length - (intOf i).toNat)
 case atStart=>exact ⟨0,I0 _,rfl,Hq _ _,fun x hx=>by simp at hx⟩
 case round=>
  obtain ⟨k,hk,rfl,hbel,hall⟩:=hrel;have HA:=Hp hall;clear hall;rcases (show k<X.length∨X.length=k by omega) with hlt|heq
  ·have hlt':(k:Int)<(X.length:Int):=by omega
   obtain ⟨o,ho⟩:∃ o,o=X.getD k undef:=⟨_,rfl⟩;have hlr:k<(List.range X.length).length:=by simpa using hlt
   have HO:=Hp (show k=(List.range X.length).getD k 0 by simp [List.getD,hlt]);have HC:=Hp (HF.out k hlt _ hbel);rw [← ho] at HC
   have a0:wr.cell? ⟨b0,o0+k,none⟩=some o:=by
    have:=H1.out k 0 hlt (by omega);rw [hbel.cell (p:=⟨b0,o0+k,none⟩) hb0,ho];simpa using this
   clear ho;have HB:=Hp hbel;clear hbel;go_wp2_with fail;refine (HC.out).mono ?_;rintro e w1 ⟨rfl,hb1⟩;have B1:=Hp (HB.out.trans (hb1.mono HB.out.size));clear hb1 HB HC;by_cases hp:p k=true
   ·have HP:=Hp hp;simp only [hp];clear hp;go_wp2;go_ret;exact ⟨rI (kO (p:=p) hlr HO.out HP.out HA.out).symm,B1.out⟩
   ·have hp':p k=false:=by simpa using hp
    have HA2:=Hp (mA (p:=p) hlr HO.out hp' HA.out);simp only [hp'];clear hp hp' HA;exact Q28
  ·have hge:¬ (k:Int)<(X.length:Int):=by omega
   have HE:=Hp (jC (X:=List.range X.length) (by simpa using heq) HA.out);exact Q134
theorem De (N:Nat) (cp:Addr) (a:Option Addr) (c:Nat) (w:World):Calls Tryz.prog 133 #[.slice a 0 c,.func (.func N) #[] #[.pointer (some cp)]] w fun e w'=>e=.returned (.int .i64 (-1))∧Below w.heap.size w w':=by
 go_enter Tryz.func133,Tryz.ntmps133;exact Q25
theorem Df (N:Nat) (cp:Addr) (hN:∀ args w,(callFunc N args).run Tryz.prog w=.ok (.enter N args) w) (p:Nat→Bool) (v:Value) (X:List Value) (w:World) (r:aI w 1 v (X.map fun x=>[x])) (hn:X.length≤4611686018427387903)
  (hf:∀ i,i<X.length→∀ w',Below w.heap.size w w'→Calls Tryz.prog N #[X.getD i undef,.pointer (some cp)] w' fun e w''=>e=.returned (.bool (p i))∧Below w'.heap.size w' w'') :
  Calls Tryz.prog 133 #[v,.func (.func N) #[] #[.pointer (some cp)]] w fun e w'=>e=.returned (.int .i64 (aQ p (List.range X.length)))∧Below w.heap.size w w':=by
 obtain ⟨a,c,rfl,l,m,n,q⟩:=aK undef r
 by_cases hX:X=[]
 ·subst hX;exact De N cp a c w
 ·obtain ⟨b,o,rfl,hb,q⟩:=q hX;exact Dc N cp hN p b o c X w hb hn q hf
theorem DU (N:Nat) (cp:Addr) (hN:∀ args w,(callFunc N args).run Tryz.prog w=.ok (.enter N args) w) (p:Nat→Bool) (v:Value) (X:List Value) (w:World) (r:aI w 1 v (X.map fun x=>[x])) (hn:X.length≤4611686018427387903)
  (hf:∀ i,i<X.length→∀ w',Below w.heap.size w w'→Calls Tryz.prog N #[X.getD i undef,.pointer (some cp)] w' fun e w''=>e=.returned (.bool (p i))∧Below w'.heap.size w' w'') (ht:(List.range X.length).any p=true) :
  Calls Tryz.prog 91 #[v,.func (.func N) #[] #[.pointer (some cp)]] w fun e w'=>e=.returned (.bool true)∧Below w.heap.size w w':=by
 have K:=Hp (Df N cp hN p v X w r hn hf)
 have HI:=ir p (List.range X.length)
 obtain ⟨a,c,rfl,_⟩:=aq r
 clear r hf
 obtain ⟨i,hi⟩:∃ i,i=aQ p (List.range X.length):=⟨_,rfl⟩
 rw [← hi] at K HI
 clear hi
 have hi0:0≤i:=HI.1.1 ht
 clear HI ht
 go_enter Tryz.func91,Tryz.ntmps91
 go_wp2_with fail
 refine K.out.mono ?_
 rintro e w1 ⟨rfl,hb1⟩
 have B1:=Hp hb1
 clear hb1 K
 go_wp2
 all_goals first|(go_ret;exact ⟨rfl,B1.out⟩)|exact Zx
theorem flows1 (v:Value) (L:List Tm) (t:Tm) (b:Nat) (w:World) (r:aI w 2 v (L.map Tm.cells)) (h0:w.cell? ⟨b,0,none⟩=some (.int .i64 t.at_)) (h1:w.cell? ⟨b,1,none⟩=some (.int .i64 t.id)):Calls Tryz.prog 92 #[v,.pointer (some ⟨b,0,none⟩)] w fun e w'=>e=.returned (.bool (decide (t∈L)))∧Below w.heap.size w w':=by
 have K:=Hp (wO v L t w r _ rfl);obtain ⟨a,c,rfl,_⟩:=aq r;clear r;have lb:=bR h0;go_enter Tryz.func92,Tryz.ntmps92;exact Q38
end
end Go.Proofs.YtneailjecbfljaaGreatDoor
