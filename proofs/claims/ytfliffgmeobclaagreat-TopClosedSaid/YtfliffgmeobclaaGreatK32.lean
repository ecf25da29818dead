/- Texts of the row's proof. Conditions: none. -/
import Derived.LoopIn
import Derived.LoopNIn
import Derived.OwnWalkIn
import Derived.RangeFuncBound
import Derived.RangeFuncNested
import Derived.Shelf.RegionOpen
import Derived.Test.YtfliffgmeobclaaGreatK25
namespace Go.Proofs.YtfliffgmeobclaaGreat
set_option maxRecDepth 100000
set_option maxHeartbeats 8000000
section
open Go.RowKit Go.Shelf
attribute [local go_sem] Oper.semAt_some
def Kw (n1 bo:Nat) (A B:World):Prop:=A.heap.size≤B.heap.size∧∀ b,b<n1→b≠bo→B.heap[b]?=A.heap[b]?
theorem Kw.trans {n1 bo:Nat} {A B C:World} (h:Kw n1 bo A B) (k:Kw n1 bo B C):Kw n1 bo A C:=⟨Iq h.1 k.1,fun b h1 h2=>(k.2 b h1 h2).trans (h.2 b h1 h2)⟩
theorem Kw.refl (n1 bo:Nat) (A:World):Kw n1 bo A A:=⟨I3 _,fun _ _ _=>rfl⟩
theorem Kw.of_below {n1 bo B:Nat} {A C:World} (h:Below B A C) (hB:n1≤B):Kw n1 bo A C:=⟨h.size,fun b h1 _=>h.block b (by omega)⟩
theorem Kw.cell {n1 bo b o:Nat} {A B:World} {v:Value} (h:Kw n1 bo A B) (hc:A.cell? ⟨b,o,none⟩=some v) (h1:b<n1) (h2:b≠bo):B.cell? ⟨b,o,none⟩=some v:=
 (I8 (w:=A) (w':=B) (a:=⟨b,o,none⟩) (h.2 b h1 h2)).trans hc
theorem kw_b {n1 bo m:Nat} (h:n1≤m):∀ (W:World) (l:Nat) (o o':Obj),m≤l→W.heap[l]?=some o→o.isCells=false→o.isWalk=false→Kw n1 bo W (W.putObj l o'):=by
 intro W l o o' hl _ _ _;refine ⟨by simp,fun b h1 _=>World.putObj_heap_other (by omega)⟩
theorem kv {w w':World} (h:Below w.heap.size w w'):w.grownBy w' none:=⟨h.os,h.tape,h.output,h.size,fun k hk _=>h.block k hk⟩
theorem yt (w:World):w.grownBy w.drew none:=kv (Hx (Hv _ _))
def zh (x:Sp):Array Value:=#[.agg #[.int .i64 x.hash,.int .i64 x.backend]]
theorem BL (n:Nat) (hn:1≤n) (l bl ba n1 bo bx ox cx:Nat) (at_:Int) (X:List Sp) (hlen:X.length≤384) (hO:Es X) (J Jx:List Sp→World→Prop) (W:World) (hJ:AbidesFrom W.heap.size J)
  (hY:∀ pre x W1,J pre W1→pre.length<X.length→YieldAt Fence.wide (n - 1) Tryz.prog l (zh x) W1 fun e W'=>
   (e=.returned (.bool true)∧J (pre++[x]) W'∧Kw n1 bo W1 W')∨(e=.returned (.bool false)∧Jx (pre++[x]) W'))
  (hn1:n1≤W.heap.size) (hbl:W.cell? ⟨bl,0,none⟩=some (.slice (some ⟨bx,ox,none⟩) X.length cx)) (hba:W.cell? ⟨ba,0,none⟩=some (.int .i64 at_)) (l1:bl<n1) (l2:bl≠bo) (l5:bx<n1) (l6:bx≠bo)
  (r:aI W 2 (.slice (some ⟨bx,ox,none⟩) X.length cx) (X.map Sp.cells)) (hc:∀ i j,i<X.length→j<2→W.cell? ⟨bx,ox+i*2+j,none⟩=(X.getD i Sp.zero).cells[j]?) (h0:J [] W) :
  CallsIn Fence.wide n Tryz.prog 156 #[.func (.yield l) #[] #[],.pointer (some ⟨bl,0,none⟩),.pointer (some ⟨ba,0,none⟩)] W fun e W'=>(∃ v,e=.returned v)∧
   ((∃ ys,(∃ k,sJ X ⟨at_,-1⟩ k∧ys=xz k X)∧J ys W')∨(∃ pre,True∧Jx pre W')):=by
 have HY:=Hu hY
 have HJ:=Hu hJ
 have H0:=Hu h0
 have R:=Hu r
 have HC:=Hu hc
 clear hY hJ h0 r hc
 refine callsIn_of_wp Tryz.func156 rfl trivial ?_ rfl
 refine wpIn_wide.2 ?_
 simp only [Tryz.ntmps156,List.size_toArray,List.length_cons,List.length_nil,Nat.reduceAdd,Nat.reduceSub,Array.replicate_succ,Array.replicate_zero,List.push_toArray,List.append_toArray,List.nil_append,List.cons_append]
 go_wp2_with fail
 refine (bsSp _ X ⟨at_,-1⟩ _ R.out hO (by omega)).mono ?_
 rintro e w2 ⟨k,f,rfl,hcut,hb2⟩
 have HCut:=Hu hcut
 have hk:=hcut.1
 have HK2:=Hu (Kw.of_below (bo:=bo) hb2 hn1)
 have HJ2:=Hu (HJ.out [] W w2 none H0.out (kv hb2) (fun r e=>by cases e))
 have hbl2:=HK2.out.cell hbl l1 l2
 have hz2:=hb2.size
 have hq1:=bR hbl
 clear hcut hb2
 go_wp2_with fail
 refine (wpIn_wide (n:=n)).1 ?_
 gi_loopw [16] (fun i wr=>∃ j:Nat,j≤X.length∧i=.int .i64 j∧J ((xz k X).take j) wr∧Kw n1 bo W wr) (fun i _=>X.length - (intOf i).toNat)
 case atStart=>exact ⟨0,I4 _,rfl,HJ2.out,HK2.out⟩
 case round=>
  obtain ⟨j,hj,rfl,hJs,hkw⟩:=hrel;have HKW:=Hu hkw;have c1:=hkw.cell hbl l1 l2;have c1':wr.drew.cell? ⟨bl,0,none⟩=_:=ce c1;rcases (show j<X.length∨j=X.length by omega) with hlt|rfl
  ·obtain ⟨m,hm⟩:∃ m,m=(k+j) % X.length:=⟨_,rfl⟩
   have hm1:m<X.length:=by rw [hm];exact Nat.mod_lt _ (by omega)
   have hmod:((k:Int)+(j:Int)) % (X.length:Int)=(m:Int):=by rw [hm];push_cast;rfl
   obtain ⟨s,hs⟩:∃ s,s=X.getD m Sp.zero:=⟨_,rfl⟩;have hrt:(xz k X).getD j Sp.zero=s:=by rw [Fm hk hlt,hs,hm]
   have htk:(xz k X).take (j+1)=(xz k X).take j++[s]:=by
    rw [Ia (by rw [p9];exact hlt)];rw [← hrt];simp [List.getD,p9,hlt]
   have a0:=hkw.cell (HC.out m 0 hm1 (by omega) |>.trans (by rw [← hs];rfl)) l5 l6;have a1:=hkw.cell (HC.out m 1 hm1 (by omega) |>.trans (by rw [← hs];rfl)) l5 l6;have a0':=ce a0;have a1':=ce a1;obtain ⟨fn,tmps,assign,body,hy,hR⟩:=HY.out ((xz k X).take j) s wr.drew (HJ.out _ _ _ none hJs (yt wr) (fun r e=>by cases e)) (by rw [Ii,p9];omega);have HT:=Hu htk;have i0:(0:Int)≤(m:Int):=by omega
   have i1:(m:Int)<(X.length:Int):=by omega
   have i2:(0:Int)≤(k:Int):=by omega
   have i3:(0:Int)≤(j:Int):=by omega
   have i4:(k:Int)+(j:Int)≤1000:=by omega
   have i5:(0:Int)<(X.length:Int):=by omega
   have i6:(j:Int)<(X.length:Int):=by omega
   have hw1:IntKind.i64.wrap ((k:Int)+(j:Int))=(k:Int)+(j:Int):=Iw _ (by omega);have hw2:IntKind.i64.wrap (m:Int)=(m:Int):=Iw _ (by omega);have x0:¬ (X.length:Int)=0:=by omega
   have x1:¬ X=[]:=by intro h;rw [h] at hlt;simp at hlt
   have x2:¬ X.length=0:=by omega
   have hmod2:((k:Int)+(j:Int)).tmod (X.length:Int)=(m:Int):=by rw [← hmod];exact Int.tmod_eq_emod_of_nonneg (by omega)
   obtain ⟨s0,s1⟩:=s;simp only [zh] at hy;simp only [Nat.add_zero] at a0 a1 a0' a1';clear hs hm hrt htk hkw
   have hR':RoundIn Fence.wide (n - 1) Tryz.prog l fn tmps assign body wr.drew fun e W'=>∃ b,e=.returned (.bool b)∧((b=true∧J ((xz k X).take (j+1)) W'∧Kw n1 bo wr W')∨(b=false∧∃ pre,Jx pre W')):=by
    refine hR.mono ?_;rintro e W' (⟨rfl,h1,h2⟩|⟨rfl,h1⟩)
    ·exact ⟨true,rfl,Or.inl ⟨rfl,by rw [HT.out];exact h1,(Kw.of_below (Hx (Hv wr.heap.size wr)) (Iq hn1 HKW.out.1)).trans h2⟩⟩
    ·exact ⟨false,rfl,Or.inr ⟨rfl,_,h1⟩⟩
   have HR:=Hu hR';clear hR hR' hJs
   gi_wp2
   have hmx:Tryz.prog.follows .mixedOrders=true:=by kernel_rfl
   gi_region_with_o ((refine HR.out.mono ?_;rintro e W3 ⟨b,rfl,hW3⟩))
   all_goals
    rcases hW3 with ⟨rfl,hJ3,hk3⟩|⟨rfl,pre,hx3⟩
    ·gi_wp2
     go_roundw
     case rel=>exact ⟨j+1,by omega,by go_num,hJ3,HKW.out.trans hk3⟩
     case measure=>simp [intOf];omega
    ·gi_wp2
     refine Ix (results_none rfl _ _ _) rfl ?_;exact ⟨⟨_,rfl⟩,.inr ⟨pre,trivial,hx3⟩⟩
  ·have hge:¬ ((X.length:Nat):Int)<(X.length:Int):=by omega
   gi_wp2
   go_end0
   exact ⟨⟨_,rfl⟩,.inl ⟨_,⟨k,HCut.out,rfl⟩,by rw [Ie (by rw [p9];omega)] at hJs;exact hJs⟩⟩
theorem rJ (n:Nat) (l bl ba n1 bo cx:Nat) (ax:Option Addr) (at_:Int) (J Jx:List Sp→World→Prop) (W:World) (hJ:AbidesFrom W.heap.size J)
  (hbl:W.cell? ⟨bl,0,none⟩=some (.slice ax 0 cx)) (hba:W.cell? ⟨ba,0,none⟩=some (.int .i64 at_)) (hn1:n1≤W.heap.size) (l1:bl<n1) (l2:bl≠bo)
  (r:aI W 2 (.slice ax 0 cx) (([]:List Sp).map Sp.cells)) (h0:J [] W) :
  CallsIn Fence.wide n Tryz.prog 156 #[.func (.yield l) #[] #[],.pointer (some ⟨bl,0,none⟩),.pointer (some ⟨ba,0,none⟩)] W fun e W'=>(∃ v,e=.returned v)∧
   ((∃ ys,(∃ k,sJ [] ⟨at_,-1⟩ k∧ys=xz k [])∧J ys W')∨(∃ pre,True∧Jx pre W')):=by
 have HJ:=Hu hJ
 have H0:=Hu h0
 have R:=Hu r
 clear hJ h0 r
 refine callsIn_of_wp Tryz.func156 rfl trivial ?_ rfl
 refine wpIn_wide.2 ?_
 simp only [Tryz.ntmps156,List.size_toArray,List.length_cons,List.length_nil,Nat.reduceAdd,Nat.reduceSub,Array.replicate_succ,Array.replicate_zero,List.push_toArray,List.append_toArray,List.nil_append,List.cons_append]
 go_wp2_with fail
 refine (bsSp _ [] ⟨at_,-1⟩ _ R.out List.Pairwise.nil (by simp)).mono ?_
 rintro e w2 ⟨k,f,rfl,hcut,hb2⟩
 have HCut:=Hu hcut
 have HK2:=Hu (Kw.of_below (bo:=bo) hb2 hn1)
 have HJ2:=Hu (HJ.out [] W w2 none H0.out (kv hb2) (fun r e=>by cases e))
 have hbl2:=HK2.out.cell hbl l1 l2
 clear hcut hb2
 go_wp2_with fail
 refine (wpIn_wide (n:=n)).1 ?_
 gi_loopw [16] (fun i wr=>i=.int .i64 0∧J [] wr) (fun _ _=>0)
 case atStart=>exact ⟨rfl,HJ2.out⟩
 case round=>
  obtain ⟨rfl,hJs⟩:=hrel
  gi_wp2
  go_end0
  exact ⟨⟨_,rfl⟩,.inl ⟨_,⟨k,HCut.out,rfl⟩,by simpa [xz] using hJs⟩⟩
theorem uq (n:Nat) (hn:1≤n) (bl ba bo cx:Nat) (ax:Option Addr) (at_:Int) (X:List Sp) (hlen:X.length≤384) (hO:Es X) (w0:World)
  (hbl:w0.cell? ⟨bl,0,none⟩=some (.slice ax X.length cx)) (hba:w0.cell? ⟨ba,0,none⟩=some (.int .i64 at_)) (l2:bl≠bo) (r:aI w0 2 (.slice ax X.length cx) (X.map Sp.cells)) (hne:X≠[]→∀ ad,ax=some ad→ad.block≠bo) :
  SeqStopsK Fence.wide n Tryz.prog 156 #[.pointer (some ⟨bl,0,none⟩),.pointer (some ⟨ba,0,none⟩)] zh (Kw w0.heap.size bo) (fun ys=>∃ k,sJ X ⟨at_,-1⟩ k∧ys=xz k X) (fun _=>True) X.length w0:=by
 intro l J Jx W hW hJ _ hY h0
 have rW:=au r hW
 have c1:=aA hW hbl
 have c2:=aA hW hba
 by_cases hX:X=[]
 ·subst hX;exact rJ n l bl ba w0.heap.size bo cx ax at_ J Jx W hJ c1 c2 hW.size (bR hbl) l2 rW h0
 ·obtain ⟨a',c',e,_,_,_,p⟩:=aK Sp.zero r;injection e with e1 e2 e3;subst e1;subst e3;obtain ⟨bx,ox,rfl,hbx,hc⟩:=p hX;exact BL n hn l bl ba w0.heap.size bo bx ox cx at_ X hlen hO J Jx W hJ hY hW.size c1 c2 (bR hbl) l2 hbx (hne hX _ rfl) rW (fun i j hi hj=>(hW.cell (p:=⟨bx,ox+i*2+j,none⟩) hbx).trans (hc i j hi hj)) h0
end
end Go.Proofs.YtfliffgmeobclaaGreat
