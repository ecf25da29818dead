/- Texts of the row's proof. Conditions: none. -/
import Derived.Test.YtocbhafgjepnjaaGreatK44
namespace Go.Proofs.YtocbhafgjepnjaaGreat
set_option maxRecDepth 100000
set_option maxHeartbeats 8000000
open Go.RowKit
theorem GR.fw {p:Nat} {w:World} {X:Wd} {V:Vs} (h:GR p w X V):∃ al cl,w.cell? ⟨p,18,none⟩=some (.slice al X.flows.length cl)∧(X.flows.length≠0→∃ bl ol,al=some ⟨bl,ol,none⟩∧bl<w.heap.size∧∀ k j,k<X.flows.length→j<7→w.cell? ⟨bl,ol+k*7+j,none⟩=(X.flows.getD k Fl.zero).cells[j]?):=by
 obtain ⟨al,cl,el,_⟩:=aj h.2.1
 refine ⟨al,cl,by rw [← el];exact h.c 18 rfl,fun hne=>?_⟩
 obtain ⟨_,_,e0,_,_,_,pt⟩:=aJ Fl.zero h.2.1
 rw [el] at e0
 injection e0 with e01 _ _
 obtain ⟨b1,o1,e1,h1,q⟩:=pt (by intro e;rw [e] at hne;simp at hne)
 exact ⟨b1,o1,e01.trans e1,h1,q⟩
theorem stB_none {L:List Lf} {b:Int} (h:∀ x∈L,x.backend≠b):gp L b=0:=by
 unfold gp
 cases hl:cW L b with
 | none=>rfl
 | some x=>exact absurd (dj hl).2 (h x (dj hl).1)
theorem prog_stateOf {w:World} {X:Wd} {V:Vs} (h:WA w X V) (hb:bF X.lives X.reqs) (b:Int):Calls Tryz.prog 15 #[.agg (cQ X V).toArray,.int .i64 b] w fun e w'=>e=.returned (.int .i64 (gp X.lives b))∧Below w.heap.size w w':=by
 obtain ⟨AW,hAW⟩:∃ AW,AW=(cQ X V).toArray:=⟨_,rfl⟩
 obtain ⟨R,hR⟩:∃ R,R=gp X.lives b:=⟨_,rfl⟩
 rw [← hAW,← hR]
 have HR:=Ib hR
 have HA:=Ib hAW
 have HW:=Ib h
 have HK:=Ib hb
 have hl12:=hb.1
 clear hR hAW h hb
 go_enter Tryz.func15,Tryz.ntmps15
 go_wp2_with fail
 refine aW _ (fun wb hwb=>?_)
 have bwb:Below w.heap.size w wb:=by rw [hwb];exact (Ic _ _).alloc (Ij _) _
 have hbk:wb.heap[w.heap.size]?=some (.cells (cQ X V).toArray 54 (0,0)):=by rw [hwb,← HA.out];exact au _ rfl
 obtain ⟨al,cl,x19,hq⟩:=(Hj (HW.out.below bwb) hbk).lv
 have HQ:=Ib hq
 have HB:=Ib bwb
 clear hwb bwb hbk hq
 go_loopw [5] (fun i wr=>∃ k:Nat,k≤X.lives.length∧i=.int .i64 k∧wr=wb∧∀ x∈X.lives.take k,x.backend≠b) (fun i _=>X.lives.length - (intOf i).toNat)
 case atStart=>exact ⟨0,Ik _,rfl,rfl,fun x hx=>absurd hx (by simp)⟩
 case round=>
  obtain ⟨k,hk,rfl,hwr,hs⟩:=hrel
  have HS:=Ib hs
  subst hwr
  clear hs
  rcases (show k<X.lives.length∨k=X.lives.length by omega) with hlt|rfl
  ·have hlt':(k:Int)<(X.lives.length:Int):=by omega
   have k0:(0:Int)≤(k:Int):=by omega
   obtain ⟨bl,ol,rfl,hbl,q⟩:=HQ.out (by omega)
   have a0:=q k 0 hlt (by omega)
   have a1:=q k 1 hlt (by omega)
   obtain ⟨x,hx⟩:∃ x,x=X.lives.getD k Lf.zero:=⟨_,rfl⟩
   rw [← hx] at a0 a1
   obtain ⟨x0,x1,x2,x3,x4,x5⟩:=x
   simp only [Lf.cells,Il,Im,Nat.add_zero] at a0 a1
   have HX:=Ib hx
   clear hx q
   by_cases hx0:x0=b
   ·obtain rfl:x1=R:=by
     have:=lf_hit HK.out hlt (b:=b) (by rw [← HX.out];exact hx0)
     rw [HR.out,Cq this,← HX.out]
    go_wp2
    go_ret
    exact ⟨rfl,HB.out⟩
   ·go_wp2
    go_roundw
    case rel=>exact ⟨k+1,by omega,by go_num,by trivial,mZ hlt HS.out (by rw [← HX.out];exact hx0)⟩
    case measure=>simp [intOf];omega
  ·have hge:¬ (X.lives.length:Int)<(X.lives.length:Int):=by omega
   obtain rfl:R=0:=by rw [HR.out];exact stB_none (by have:=HS.out;rwa [List.take_length] at this)
   go_wp2
   go_ret
   exact ⟨rfl,HB.out⟩
def flB (X:Wd) (b:Int):Nat:=X.flows.countP fun f=>f.backend == b
theorem countP_next {α:Type} {L:List α} {k:Nat} {d:α} (q:α→Bool) (hk:k<L.length):(L.take (k+1)).countP q=(L.take k).countP q+if q (L.getD k d)=true then 1 else 0:=by
 rw [Ir hk,List.countP_append,aK hk]
 simp [List.countP_cons]
theorem prog_flowsOf {w:World} {X:Wd} {V:Vs} (h:WA w X V) (hn:X.flows.length≤40) (b:Int):Calls Tryz.prog 20 #[.agg (cQ X V).toArray,.int .i64 b] w fun e w'=>e=.returned (.int .i64 (flB X b:Nat))∧Below w.heap.size w w':=by
 obtain ⟨AW,hAW⟩:∃ AW,AW=(cQ X V).toArray:=⟨_,rfl⟩
 rw [← hAW]
 have HA:=Ib hAW
 have HW:=Ib h
 clear hAW h
 go_enter Tryz.func20,Tryz.ntmps20
 go_wp2_with fail
 refine aW _ (fun wb hwb=>?_)
 have bwb:Below w.heap.size w wb:=by rw [hwb];exact (Ic _ _).alloc (Ij _) _
 have hbk:wb.heap[w.heap.size]?=some (.cells (cQ X V).toArray 54 (0,0)):=by rw [hwb,← HA.out];exact au _ rfl
 obtain ⟨al,cl,x18,hq⟩:=(Hj (HW.out.below bwb) hbk).fw
 have HQ:=Ib hq
 have HB:=Ib bwb
 clear hwb bwb hbk hq
 go_loopw [5,6] (fun n i wr=>∃ k:Nat,k≤X.flows.length∧i=.int .i64 k∧wr=wb∧n=.int .i64 ((X.flows.take k).countP (fun f=>f.backend == b):Nat)) (fun _ i _=>X.flows.length - (intOf i).toNat)
 case atStart=>exact ⟨0,Ik _,rfl,rfl,rfl⟩
 case round=>
  obtain ⟨k,hk,rfl,hwr,rfl⟩:=hrel
  subst hwr
  obtain ⟨n,hcn⟩:∃ n,n=(X.flows.take k).countP (fun f=>f.backend == b):=⟨_,rfl⟩
  have hnk:n≤k:=by rw [hcn];exact IG List.countP_le_length (List.length_take_le _ _)
  rw [← hcn]
  have HC:=Ib hcn
  clear hcn
  rcases (show k<X.flows.length∨k=X.flows.length by omega) with hlt|rfl
  ·have hlt':(k:Int)<(X.flows.length:Int):=by omega
   have k0:(0:Int)≤(k:Int):=by omega
   obtain ⟨bl,ol,rfl,hbl,q⟩:=HQ.out (by omega)
   have a0:=q k 3 hlt (by omega)
   obtain ⟨x,hx⟩:∃ x,x=X.flows.getD k Fl.zero:=⟨_,rfl⟩
   have hcx:=countP_next (d:=Fl.zero) (fun f:Fl=>f.backend == b) hlt
   rw [← hx] at a0 hcx
   obtain ⟨x0,x1,x2,x3,x4,x5,x6⟩:=x
   simp only [Fl.cells,Il,Im,← HC.out] at a0 hcx
   have HX:=Ib hcx
   clear hx q hcx
   by_cases hx0:x3=b
   ·go_wp2
    go_roundw
    case rel=>exact ⟨k+1,by omega,by go_num,by trivial,by rw [HX.out,if_pos (by simpa using hx0)];go_num⟩
    case measure=>simp [intOf];omega
   ·go_wp2
    go_roundw
    case rel=>exact ⟨k+1,by omega,by go_num,by trivial,by rw [HX.out,if_neg (by simpa using hx0)];rfl⟩
    case measure=>simp [intOf];omega
  ·have hge:¬ (X.flows.length:Int)<(X.flows.length:Int):=by omega
   obtain rfl:n=flB X b:=by rw [HC.out,List.take_length];rfl
   go_wp2
   go_ret
   exact ⟨rfl,HB.out⟩
end Go.Proofs.YtocbhafgjepnjaaGreat
