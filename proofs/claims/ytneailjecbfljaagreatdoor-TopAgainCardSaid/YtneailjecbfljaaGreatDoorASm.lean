/- Texts of the row's proof. Conditions: none. -/
import Derived.Test.YtneailjecbfljaaGreatDoorAGr
import Derived.Test.YtneailjecbfljaaGreatDoorK47
import Derived.BigQuiet
namespace Go.Proofs.YtneailjecbfljaaGreatDoor
set_option maxRecDepth 100000
set_option maxHeartbeats 8000000
open Go.RowKit
theorem info_Evs:(Tryz.prog.info? 60).map (fun i=>(i.zero,i.size,i.bytes))=some (some (.agg #[.int .i64 0,.int .i64 0,.int .i64 0,.int .i64 0,.bool false,.int .i64 0,.int .i64 0,.int .i64 0]),8,64):=by kernel_rfl
theorem prog_same {w:World} {A:List Out} {a1 a2:Option Addr} {c1 c2:Nat} (h1:aI w 7 (.slice a1 A.length c1) (A.map Out.cells)) (h2:aI w 7 (.slice a2 A.length c2) (A.map Out.cells)) (w':World) (hw:∃ m,w'=w.drewN m) :
  Calls Tryz.prog 7 #[.slice a1 A.length c1,.slice a2 A.length c2] w' fun e w''=>e=.returned (.bool true)∧∃ m,w''=w.drewN m:=by
 have hl:A.length≤maxLen:=by
  obtain ⟨_,_,e,g1,g2,_⟩:=h1
  simp only [Value.slice.injEq,I5] at e g1
  omega
 have hl2:A.length≤9223372036854775807:=by unfold maxLen at hl;omega
 have HW:=Hp hw
 have H1:=Hp h1
 have H2:=Hp h2
 clear h1 h2 hl hw
 go_enter Tryz.func7,Tryz.ntmps7
 go_wp2
 go_loopw [5] (fun i wr=>∃ k:Nat,k≤A.length∧i=.int .i64 k∧∃ m,wr=w.drewN m) (fun i _=>A.length - (intOf i).toNat)
 case atStart=>exact ⟨0,I0 _,rfl,HW.out⟩
 case round=>
  obtain ⟨k,hk,rfl,m,rfl⟩:=hrel
  rcases (show k<A.length∨k=A.length by omega) with hlt|rfl
  ·have hlt':(k:Int)<(A.length:Int):=by omega
   have k0:(0:Int)≤(k:Int):=by omega
   obtain ⟨_,_,e1,_,_,_,p1⟩:=aK Out.zero H1.out
   obtain ⟨_,_,e2,_,_,_,p2⟩:=aK Out.zero H2.out
   injection e1 with e1 _ _
   injection e2 with e2 _ _
   obtain ⟨b1,o1,e3,_,q1⟩:=p1 (by intro e;rw [e] at hlt;simp at hlt)
   obtain ⟨b2,o2,e4,_,q2⟩:=p2 (by intro e;rw [e] at hlt;simp at hlt)
   rw [← e1] at e3
   rw [← e2] at e4
   subst e3 e4
   have a0:=q1 k 0 hlt (by omega)
   have a1:=q1 k 1 hlt (by omega)
   have a2:=q1 k 2 hlt (by omega)
   have a3:=q1 k 3 hlt (by omega)
   have a4:=q1 k 4 hlt (by omega)
   have a5:=q1 k 5 hlt (by omega)
   have a6:=q1 k 6 hlt (by omega)
   have b0:=q2 k 0 hlt (by omega)
   have b1:=q2 k 1 hlt (by omega)
   have b2:=q2 k 2 hlt (by omega)
   have b3:=q2 k 3 hlt (by omega)
   have b4:=q2 k 4 hlt (by omega)
   have b5:=q2 k 5 hlt (by omega)
   have b6:=q2 k 6 hlt (by omega)
   obtain ⟨x,hx⟩:∃ x,x=A.getD k Out.zero:=⟨_,rfl⟩
   rw [← hx] at a0 a1 a2 a3 a4 a5 a6 b0 b1 b2 b3 b4 b5 b6
   obtain ⟨x0,x1,x2,x3,x4,x5,x6⟩:=x
   simp only [Out.cells,I1,I2,Nat.add_zero] at a0 a1 a2 a3 a4 a5 a6 b0 b1 b2 b3 b4 b5 b6
   clear hx q1 q2 p1 p2 e1 e2
   go_upto_region 6 with fail
   go_quiet (fail)
   go_wp2
   go_roundw
   case rel=>exact ⟨k+1,by omega,by go_num,_,by first|rfl|simp⟩
   case measure=>simp [intOf];omega
  ·have hge:¬ (A.length:Int)<(A.length:Int):=by omega
   go_wp2
   go_ret
   exact ⟨rfl,_,rfl⟩
theorem PG.se {B p:Nat} {w:World} {c:Cf} {P:lA} {VL:Vs} {MS:List Ms} {vs vg:Value} (h:PG B p w c P VL MS vs vg) :
  ∃ a cp,w.cell? ⟨p,16,none⟩=some (.slice a P.steps.length cp)∧∀ i,i<P.steps.length→∃ b o,a=some ⟨b,o,none⟩∧b<w.heap.size∧(∀ j v,(Ev.cells (P.steps.getD i Stp.zero).ev)[j]?=some v→w.cell? ⟨b,o+i*61+j,none⟩=some v)∧
   ∃ ao co,w.cell? ⟨b,o+i*61+60,none⟩=some (.slice ao (P.steps.getD i Stp.zero).out.length co)∧aI w 7 (.slice ao (P.steps.getD i Stp.zero).out.length co) ((P.steps.getD i Stp.zero).out.map Out.cells):=by
 obtain ⟨a,cp,h16,h1⟩:=h.rd
 refine ⟨a,cp,h16,fun i hi=>?_⟩
 obtain ⟨b,o,e,hb,hr⟩:=h1 (by omega)
 have hri:=hr i hi
 have hw:=h.ws i hi
 obtain ⟨ao,co,e1,_⟩:=aq hw.o.1
 refine ⟨b,o,e,hb,fun j v hj=>hri j v ?_,ao,co,?_,by rw [← e1];exact hw.o.1⟩
 ·unfold oW
  rw [Ix,hj]
  rcases Nat.lt_or_ge j (Ev.cells (P.steps.getD i Stp.zero).ev).length with g|g
  ·exact g
  ·rw [Ig g] at hj;cases hj
 ·refine hri 60 _ ?_
  rw [← e1];rfl
theorem range_cf {w:World} {p:Nat} {c:Cf} {vs vg:Value} {X:Wd} {V:Vs} {T:TypeId} {fr:Nat×Nat} (h:w.heap[p]?=some (.cells (CF c vs X V vg).toArray T fr)):w.rangeAt p 0 (Cf.cells c):=
 lL (A:=[]) (C:=[vs]++(ds X V++[vg])) (T:=T) (fr:=fr) (by rw [h];simp [CF])
end Go.Proofs.YtneailjecbfljaaGreatDoor
