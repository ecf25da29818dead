/- Texts of the row's proof. Conditions: none. -/
import Derived.Test.YtfliffgmeobclaaGreatK43
namespace Go.Proofs.YtfliffgmeobclaaGreat
set_option maxRecDepth 100000
set_option maxHeartbeats 8000000
open Go.RowKit
theorem GR_box0 {p:Nat} {w:World} {X:Wd} {V:Vs} {T:TypeId} (h:WA w X V) (hb:w.heap[p]?=some (.cells (dj X V).toArray T (0,0))):GR p w X V:=by
 refine ⟨h.ro,h.fl,h.he,lt_of_block hb,fun i v hv=>?_⟩
 rw [ae hb i,I0,hv]
theorem GR.lv {p:Nat} {w:World} {X:Wd} {V:Vs} (h:GR p w X V):∃ al cl,w.cell? ⟨p,19,none⟩=some (.slice al X.lives.length cl)∧(X.lives.length≠0→∃ bl ol,al=some ⟨bl,ol,none⟩∧bl<w.heap.size∧∀ k j,k<X.lives.length→j<6→w.cell? ⟨bl,ol+k*6+j,none⟩=(X.lives.getD k Lf.zero).cells[j]?):=by
 obtain ⟨al,cl,el,_⟩:=aq h.1.li.1
 refine ⟨al,cl,by rw [← el];exact h.c 19 rfl,fun hne=>?_⟩
 obtain ⟨_,_,e0,_,_,_,pt⟩:=aK Lf.zero h.1.li.1
 rw [el] at e0
 injection e0 with e01 _ _
 obtain ⟨b1,o1,e1,h1,q⟩:=pt (by intro e;rw [e] at hne;simp at hne)
 exact ⟨b1,o1,e01.trans e1,h1,q⟩
theorem stB_some {L:List Lf} {b:Int} {x:Lf} (h:dt L b=some x):gL L b=x.state:=by unfold gL;rw [h];rfl
theorem stB_none {L:List Lf} {b:Int} (h:∀ x∈L,x.backend≠b):gL L b=0:=by
 unfold gL
 cases hl:dt L b with
 | none=>rfl
 | some x=>exact absurd (dz hl).2 (h x (dz hl).1)
theorem take_next {α:Type} {L:List α} {k:Nat} {d:α} {q:α→Prop} (hk:k<L.length) (h:∀ x∈L.take k,q x) (hx:q (L.getD k d)):∀ x∈L.take (k+1),q x:=by
 intro x hm
 rw [I3 hk] at hm
 rcases List.mem_append.1 hm with hm|hm
 ·exact h x hm
 ·rw [List.mem_singleton] at hm
  rw [aN hk] at hx
  rw [hm];exact hx
theorem lf_hit {L:List Lf} {R:List Rq} (h:bF L R) {k:Nat} (hk:k<L.length) {b:Int} (hb:(L.getD k Lf.zero).backend=b):dt L b=some (L.getD k Lf.zero):=by
 rw [← hb]
 refine j4 (cG h) ?_
 rw [aN hk];exact I8 _
theorem prog_stateOf {w:World} {X:Wd} {V:Vs} (h:WA w X V) (hb:bF X.lives X.reqs) (b:Int):Calls Tryz.prog 13 #[.agg (dj X V).toArray,.int .i64 b] w fun e w'=>e=.returned (.int .i64 (gL X.lives b))∧Below w.heap.size w w':=by
 obtain ⟨AW,hAW⟩:∃ AW,AW=(dj X V).toArray:=⟨_,rfl⟩
 obtain ⟨R,hR⟩:∃ R,R=gL X.lives b:=⟨_,rfl⟩
 rw [← hAW,← hR]
 have HR:=Hm hR
 have HA:=Hm hAW
 have HW:=Hm h
 have HK:=Hm hb
 have hl12:=hb.1
 clear hR hAW h hb
 go_enter Tryz.func13,Tryz.ntmps13
 go_wp2_with fail
 refine aY _ (fun wb hwb=>?_)
 have bwb:Below w.heap.size w wb:=by rw [hwb];exact (Hn _ _).alloc (Hv _) _
 have hbk:wb.heap[w.heap.size]?=some (.cells (dj X V).toArray 63 (0,0)):=by rw [hwb,← HA.out];exact az _ rfl
 obtain ⟨al,cl,x19,hq⟩:=(GR_box0 (HW.out.below bwb) hbk).lv
 have HQ:=Hm hq
 have HB:=Hm bwb
 clear hwb bwb hbk hq
 go_loopw [5] (fun i wr=>∃ k:Nat,k≤X.lives.length∧i=.int .i64 k∧wr=wb∧∀ x∈X.lives.take k,x.backend≠b) (fun i _=>X.lives.length - (intOf i).toNat)
 case atStart=>exact ⟨0,Hx _,rfl,rfl,fun x hx=>absurd hx (by simp)⟩
 case round=>
  obtain ⟨k,hk,rfl,hwr,hs⟩:=hrel
  have HS:=Hm hs
  subst hwr
  clear hs
  rcases (show k<X.lives.length∨k=X.lives.length by omega) with hlt|rfl
  ·have hlt':(k:Int)<(X.lives.length:Int):=by omega
   have k0:(0:Int)≤(k:Int):=by omega
   obtain ⟨bl,ol,rfl,hbl,q⟩:=HQ.out (by omega)
   have a0:=q k 0 hlt (by omega)
   have a1:=q k 1 hlt (by omega)
   obtain ⟨x,hx⟩:∃ x,x=X.lives.getD k Lf.zero:=⟨_,rfl⟩
   rw [← hx] at a0 a1
   obtain ⟨x0,x1,x2,x3,x4,x5⟩:=x
   simp only [Lf.cells,Hy,Hz,Nat.add_zero] at a0 a1
   have HX:=Hm hx
   clear hx q
   by_cases hx0:x0=b
   ·obtain rfl:x1=R:=by
     have:=lf_hit HK.out hlt (b:=b) (by rw [← HX.out];exact hx0)
     rw [HR.out,stB_some this,← HX.out]
    go_wp2
    go_ret
    exact ⟨rfl,HB.out⟩
   ·go_wp2
    go_roundw
    case rel=>exact ⟨k+1,by omega,by go_num,by trivial,take_next hlt HS.out (by rw [← HX.out];exact hx0)⟩
    case measure=>simp [intOf];omega
  ·have hge:¬ (X.lives.length:Int)<(X.lives.length:Int):=by omega
   obtain rfl:R=0:=by rw [HR.out];exact stB_none (by have:=HS.out;rwa [List.take_length] at this)
   go_wp2
   go_ret
   exact ⟨rfl,HB.out⟩
end Go.Proofs.YtfliffgmeobclaaGreat
