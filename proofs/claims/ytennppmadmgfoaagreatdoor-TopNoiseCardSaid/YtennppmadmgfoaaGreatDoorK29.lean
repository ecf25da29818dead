/- Texts of the row's proof. Conditions: none. -/
import Derived.LoopIn
import Derived.LoopNIn
import Derived.OwnWalkIn
import Derived.RangeFuncBound
import Derived.RangeFuncNested
import Derived.Shelf.RegionOpen
import Derived.Test.YtennppmadmgfoaaGreatDoorK22
namespace Go.Proofs.YtennppmadmgfoaaGreatDoor
open Proofs.Tryz
set_option maxRecDepth 100000
set_option maxHeartbeats 8000000
section
open Go.RowKit Go.Shelf
attribute [local go_sem] Oper.semAt_some
def Kw (h bo:Nat) (A B:World):Prop:=A.heap.size<=B.heap.size/\∀ b,b<h->b≠bo->B.heap[b]?=A.heap[b]?
theorem Kw.trans {h bo:Nat} {A B C:World} (z:Kw h bo A B) (k:Kw h bo B C):Kw h bo A C:=⟨Lz z.1 k.1,fun b E I=>(k.2 b E I).trans (z.2 b E I)⟩
theorem Kw.refl (h bo:Nat) (A:World):Kw h bo A A:=⟨KY _,fun _ _ _=>rfl⟩
theorem Kw.of_below {z bo B:Nat} {A C:World} (h:Below B A C) (I:z<=B):Kw z bo A C:=⟨h.size,fun b E _=>h.block b (by omega)⟩
theorem Kw.cell {h bo b o:Nat} {A B:World} {v:Value} (z:Kw h bo A B) (J:A.cell? ⟨b,o,none⟩=some v) (E:b<h) (I:b≠bo):B.cell? ⟨b,o,none⟩=some v:=
 (Lg (w:=A) (w':=B) (a:=⟨b,o,none⟩) (z.2 b E I)).trans J
theorem kw_b {h bo m:Nat} (I:h<=m):∀ (W:World) (l:Nat) (o z:Obj),m<=l->W.heap[l]?=some o->o.isCells=false->o.isWalk=false->Kw h bo W (W.putObj l z):=by
 intro W l o z K _ _ _;refine ⟨by simp,fun E J _=>World.putObj_heap_other (by omega)⟩
theorem kO {w w':World} (h:Below w.heap.size w w'):w.grownBy w' none:=⟨h.os,h.tape,h.output,h.size,fun k z _=>h.block k z⟩
theorem zZ (w:World):w.grownBy w.drew none:=kO (KN (KM _ _))
def Ba (x:Sp):Array Value:=#[.agg #[.int .i64 x.hash,.int .i64 x.backend]]
theorem DP (n:Nat) (hn:1<=n) (l bl ba n1 bo bx ox cx:Nat) (at_:Int) (X:List Sp) (hlen:X.length<=384) (hO:Hs X) (J Jx:List Sp->World->Prop) (W:World) (hJ:AbidesFrom W.heap.size J)
  (hY:∀ pre x W1,J pre W1->pre.length<X.length->YieldAt Fence.wide (n - 1) prog l (Ba x) W1 fun e W'=>
   (e=.returned (.bool true)/\J (pre++[x]) W'/\Kw n1 bo W1 W')\/(e=.returned (.bool false)/\Jx (pre++[x]) W'))
  (hn1:n1<=W.heap.size) (hbl:W.cell? ⟨bl,0,none⟩=some (.slice (some ⟨bx,ox,none⟩) X.length cx)) (hba:W.cell? ⟨ba,0,none⟩=some (.int .i64 at_)) (l1:bl<n1) (l2:bl≠bo) (l5:bx<n1) (l6:bx≠bo)
  (r:aK W 2 (.slice (some ⟨bx,ox,none⟩) X.length cx) (X.map Sp.cells)) (hc:∀ i j,i<X.length->j<2->W.cell? ⟨bx,ox+i*2+j,none⟩=(X.getD i Sp.zero).cells[j]?) (h0:J [] W) :
  CallsIn Fence.wide n prog 160 #[.func (.yield l) #[] #[],.pointer (some ⟨bl,0,none⟩),.pointer (some ⟨ba,0,none⟩)] W fun e W'=>(∃ v,e=.returned v)/\
   ((∃ ys,(∃ k,tY X ⟨at_,-1⟩ k/\ys=zb k X)/\J ys W')\/(∃ pre,True/\Jx pre W')):=by
 have HY:=KL hY
 have HJ:=KL hJ
 have H0:=KL h0
 have R:=KL r
 have HC:=KL hc
 clear hY hJ h0 r hc
 refine callsIn_of_wp func160 rfl trivial ?_ rfl
 refine wpIn_wide.2 ?_
 simp only [ntmps160,List.size_toArray,List.length_cons,List.length_nil,Nat.reduceAdd,Nat.reduceSub,Array.replicate_succ,Array.replicate_zero,List.push_toArray,List.append_toArray,List.nil_append,List.cons_append]
 go_wp2_with fail
 refine (bsSp _ X ⟨at_,-1⟩ _ R.out hO (by omega)).mono ?_
 rintro e w2 ⟨k,f,rfl,hcut,hb2⟩
 have HCut:=KL hcut
 have hk:=hcut.1
 have HK2:=KL (Kw.of_below (bo:=bo) hb2 hn1)
 have HJ2:=KL (HJ.out [] W w2 none H0.out (kO hb2) (fun r e=>by cases e))
 have hbl2:=HK2.out.cell hbl l1 l2
 have hz2:=hb2.size
 have hq1:=bV hbl
 clear hcut hb2
 go_wp2_with fail
 refine (wpIn_wide (n:=n)).1 ?_
 gi_loopw [16] (fun i wr=>∃ j:Nat,j<=X.length/\i=.int .i64 j/\J ((zb k X).take j) wr/\Kw n1 bo W wr) (fun i _=>X.length - (intOf i).toNat)
 case atStart=>exact ⟨0,La _,rfl,HJ2.out,HK2.out⟩
 case round=>
  obtain ⟨j,hj,rfl,hJs,hkw⟩:=hrel;have HKW:=KL hkw;have c1:=hkw.cell hbl l1 l2;have c1':wr.drew.cell? ⟨bl,0,none⟩=_:=cq c1;rcases (show j<X.length\/j=X.length by omega) with hlt|rfl
  ·obtain ⟨m,hm⟩:∃ m,m=(k+j) % X.length:=⟨_,rfl⟩
   have hm1:m<X.length:=by rw [hm];exact Nat.mod_lt _ (by omega)
   have hmod:((k:Int)+(j:Int)) % (X.length:Int)=(m:Int):=by rw [hm];push_cast;rfl
   obtain ⟨s,hs⟩:∃ s,s=X.getD m Sp.zero:=⟨_,rfl⟩;have hrt:(zb k X).getD j Sp.zero=s:=by rw [IE hk hlt,hs,hm]
   have htk:(zb k X).take (j+1)=(zb k X).take j++[s]:=by
    rw [Li (by rw [qo];exact hlt)];rw [<- hrt];simp [List.getD,qo,hlt]
   have a0:=hkw.cell (HC.out m 0 hm1 (by omega) |>.trans (by rw [<- hs];rfl)) l5 l6;have a1:=hkw.cell (HC.out m 1 hm1 (by omega) |>.trans (by rw [<- hs];rfl)) l5 l6;have a0':=cq a0;have a1':=cq a1;obtain ⟨fn,tmps,assign,body,hy,hR⟩:=HY.out ((zb k X).take j) s wr.drew (HJ.out _ _ _ none hJs (zZ wr) (fun r e=>by cases e)) (by rw [Ls,qo];omega);have HT:=KL htk;have i0:(0:Int)<=(m:Int):=by omega
   have i1:(m:Int)<(X.length:Int):=by omega
   have i2:(0:Int)<=(k:Int):=by omega
   have i3:(0:Int)<=(j:Int):=by omega
   have i4:(k:Int)+(j:Int)<=1000:=by omega
   have i5:(0:Int)<(X.length:Int):=by omega
   have i6:(j:Int)<(X.length:Int):=by omega
   have hw1:IntKind.i64.wrap ((k:Int)+(j:Int))=(k:Int)+(j:Int):=LK _ (by omega);have hw2:IntKind.i64.wrap (m:Int)=(m:Int):=LK _ (by omega);have x0:¬ (X.length:Int)=0:=by omega
   have x1:¬ X=[]:=by intro h;rw [h] at hlt;simp at hlt
   have x2:¬ X.length=0:=by omega
   have hmod2:((k:Int)+(j:Int)).tmod (X.length:Int)=(m:Int):=by rw [<- hmod];exact Int.tmod_eq_emod_of_nonneg (by omega)
   obtain ⟨s0,s1⟩:=s;simp only [Ba] at hy;simp only [Nat.add_zero] at a0 a1 a0' a1';clear hs hm hrt htk hkw
   have hR':RoundIn Fence.wide (n - 1) prog l fn tmps assign body wr.drew fun e W'=>∃ b,e=.returned (.bool b)/\((b=true/\J ((zb k X).take (j+1)) W'/\Kw n1 bo wr W')\/(b=false/\∃ pre,Jx pre W')):=by
    refine hR.mono ?_;rintro e W' (⟨rfl,h1,h2⟩|⟨rfl,h1⟩)
    ·exact ⟨true,rfl,Or.inl ⟨rfl,by rw [HT.out];exact h1,(Kw.of_below (KN (KM wr.heap.size wr)) (Lz hn1 HKW.out.1)).trans h2⟩⟩
    ·exact ⟨false,rfl,Or.inr ⟨rfl,_,h1⟩⟩
   have HR:=KL hR';clear hR hR' hJs
   gi_wp2
   have hmx:prog.follows .mixedOrders=true:=by kernel_rfl
   gi_region_with_o ((refine HR.out.mono ?_;rintro e W3 ⟨b,rfl,hW3⟩))
   all_goals
    rcases hW3 with ⟨rfl,hJ3,hk3⟩|⟨rfl,pre,hx3⟩
    ·gi_wp2
     go_roundw
     case rel=>exact ⟨j+1,by omega,by go_num,hJ3,HKW.out.trans hk3⟩
     case measure=>simp [intOf];omega
    ·gi_wp2
     refine LN (results_none rfl _ _ _) rfl ?_;exact ⟨⟨_,rfl⟩,.inr ⟨pre,trivial,hx3⟩⟩
  ·have hge:¬ ((X.length:Nat):Int)<(X.length:Int):=by omega
   gi_wp2
   go_end0
   exact ⟨⟨_,rfl⟩,.inl ⟨_,⟨k,HCut.out,rfl⟩,by rw [Lo (by rw [qo];omega)] at hJs;exact hJs⟩⟩
theorem sY (n:Nat) (l bl J Z bo K:Nat) (I:Option Addr) (at_:Int) (h Jx:List Sp->World->Prop) (W:World) (Y:AbidesFrom W.heap.size h)
  (a4:W.cell? ⟨bl,0,none⟩=some (.slice I 0 K)) (a7:W.cell? ⟨J,0,none⟩=some (.int .i64 at_)) (a5:Z<=W.heap.size) (l1:bl<Z) (l2:bl≠bo)
  (r:aK W 2 (.slice I 0 K) (([]:List Sp).map Sp.cells)) (U:h [] W) :
  CallsIn Fence.wide n prog 160 #[.func (.yield l) #[] #[],.pointer (some ⟨bl,0,none⟩),.pointer (some ⟨J,0,none⟩)] W fun e E=>(∃ v,e=.returned v)/\
   ((∃ ys,(∃ k,tY [] ⟨at_,-1⟩ k/\ys=zb k [])/\h ys E)\/(∃ a6,True/\Jx a6 E)):=by
 have HJ:=KL Y
 have H0:=KL U
 have R:=KL r
 clear Y U r
 refine callsIn_of_wp func160 rfl trivial ?_ rfl
 refine wpIn_wide.2 ?_
 simp only [ntmps160,List.size_toArray,List.length_cons,List.length_nil,Nat.reduceAdd,Nat.reduceSub,Array.replicate_succ,Array.replicate_zero,List.push_toArray,List.append_toArray,List.nil_append,List.cons_append]
 go_wp2_with fail
 refine (bsSp _ [] ⟨at_,-1⟩ _ R.out List.Pairwise.nil (by simp)).mono ?_
 rintro e w2 ⟨k,f,rfl,hcut,z⟩
 have a0:=KL hcut
 have a2:=KL (Kw.of_below (bo:=bo) z a5)
 have a1:=KL (HJ.out [] W w2 none H0.out (kO z) (fun r e=>by cases e))
 have a8:=a2.out.cell a4 l1 l2
 clear hcut z
 go_wp2_with fail
 refine (wpIn_wide (n:=n)).1 ?_
 gi_loopw [16] (fun i wr=>i=.int .i64 0/\h [] wr) (fun _ _=>0)
 case atStart=>exact ⟨rfl,a1.out⟩
 case round=>
  obtain ⟨rfl,a3⟩:=hrel
  gi_wp2
  go_end0
  exact ⟨⟨_,rfl⟩,.inl ⟨_,⟨k,a0.out,rfl⟩,by simpa [zb] using a3⟩⟩
theorem vO (n:Nat) (hn:1<=n) (bl E bo I:Nat) (z:Option Addr) (at_:Int) (X:List Sp) (a2:X.length<=384) (hO:Hs X) (w0:World)
  (J:w0.cell? ⟨bl,0,none⟩=some (.slice z X.length I)) (a1:w0.cell? ⟨E,0,none⟩=some (.int .i64 at_)) (l2:bl≠bo) (r:aK w0 2 (.slice z X.length I) (X.map Sp.cells)) (a3:X≠[]->∀ Y,z=some Y->Y.block≠bo) :
  SeqStopsK Fence.wide n prog 160 #[.pointer (some ⟨bl,0,none⟩),.pointer (some ⟨E,0,none⟩)] Ba (Kw w0.heap.size bo) (fun ys=>∃ k,tY X ⟨at_,-1⟩ k/\ys=zb k X) (fun _=>True) X.length w0:=by
 intro l K U W h hJ _ hY h0
 have rW:=aq r h
 have c1:=aC h J
 have c2:=aC h a1
 by_cases hX:X=[]
 ·subst hX;exact sY n l bl E w0.heap.size bo I z at_ K U W hJ c1 c2 h.size (bV J) l2 rW h0
 ·obtain ⟨a',c',e,_,_,_,p⟩:=aO Sp.zero r;injection e with e1 e2 e3;subst e1;subst e3;obtain ⟨Z,ox,rfl,a0,hc⟩:=p hX;exact DP n hn l bl E w0.heap.size bo Z ox I at_ X a2 hO K U W hJ hY h.size c1 c2 (bV J) l2 a0 (a3 hX _ rfl) rW (fun i j hi hj=>(h.cell (p:=⟨Z,ox+i*2+j,none⟩) a0).trans (hc i j hi hj)) h0
end
end Go.Proofs.YtennppmadmgfoaaGreatDoor
