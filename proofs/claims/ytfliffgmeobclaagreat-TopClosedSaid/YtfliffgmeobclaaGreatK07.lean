/- Texts of the row's proof. Conditions: none. -/
import Derived.Test.YtfliffgmeobclaaGreatK06
namespace Go.Proofs.YtfliffgmeobclaaGreat
set_option maxRecDepth 100000
set_option maxHeartbeats 8000000
section
open Go.RowKit
def Ev.agg (x:Ev):Value:=.agg #[.int .i64 x.kind,.int .i64 x.key,.int .i64 x.slot,.int .i64 x.gen,.bool x.good,.int .i64 x.request,.int .i64 x.backend,.int .i64 x.weight]
def fV (e:Ev):Ev:=
 if e.kind=1 then ⟨0,0,e.slot,e.gen,e.good,e.request,e.backend,e.weight⟩
 else if e.kind=2∨e.kind=3 then ⟨0,e.key,0,0,e.good,e.request,e.backend,e.weight⟩
 else if e.kind=4 then ⟨0,e.key,0,0,false,e.request,e.backend,e.weight⟩
 else if e.kind=5 then ⟨0,e.key,e.slot,e.gen,e.good,0,0,0⟩
 else if e.kind=6 then ⟨0,e.key,e.slot,e.gen,e.good,0,0,e.weight⟩
 else ⟨0,e.key,e.slot,e.gen,e.good,e.request,e.backend,e.weight⟩
def dV (w wr:World) (b0:Nat) (w1:World) (c:Array Value):Prop:=Below w.heap.size w wr∧wr.heap[w.heap.size]?=some (.cells c 72 (0,0))∧wr.heap[w.heap.size+1]?=some (.cells #[.int .i64 0,.int .i64 0,.int .i64 0,.int .i64 0,.bool false,.int .i64 0,.int .i64 0,.int .i64 0] 72 (0,0))∧wr.heap[w.heap.size+1+1]?=some (.cells #[.int .i64 0] 3 (0,0))∧(∀ o,wr.cell? ⟨b0,o,none⟩=w1.cell? ⟨b0,o,none⟩)∧w.heap.size+3≤b0∧b0<wr.heap.size
theorem iO {w wr:World} {b0:Nat} {w1:World} {c:Array Value} {X:Obj} {j:Nat} {v:Value} (h:dV w wr b0 w1 c):dV w ((wr.setCell ⟨w.heap.size,j,none⟩ v).alloc X) b0 w1 (c.setIfInBounds j v):=by
 obtain ⟨h1,h2,h3,h4,h5,h6,h7⟩:=h;have l2:=lt_of_block h2;have l3:=lt_of_block h3;have l4:=lt_of_block h4;refine ⟨(h1.setCell (by simp) _).alloc (by simp;omega) _,(Hz _ _ _ (by simpa using l2)).trans (aP h2 _),(Hz _ _ _ (by simpa using l3)).trans (aU h3 (by omega)),(Hz _ _ _ (by simpa using l4)).trans (aU h4 (by omega)),fun o=>?_,h6,by simp;omega⟩;exact Q126
theorem xj {w wr:World} {b0:Nat} {w1:World} {c:Array Value} {X:Obj} (h:dV w wr b0 w1 c):dV w ((wr.setCell ⟨w.heap.size+1+1,0,none⟩ (.int .i64 0)).alloc X) b0 w1 c:=by
 obtain ⟨h1,h2,h3,h4,h5,h6,h7⟩:=h;have l2:=lt_of_block h2;have l3:=lt_of_block h3;have l4:=lt_of_block h4;refine ⟨(h1.setCell (by simp;omega) _).alloc (by simp;omega) _,(Hz _ _ _ (by simpa using l2)).trans (aU h2 (by omega)),(Hz _ _ _ (by simpa using l3)).trans (aU h3 (by omega)),(Hz _ _ _ (by simpa using l4)).trans (aP h4 _),fun o=>?_,h6,by simp;omega⟩;exact Q126
theorem rest_1 (ky sl gn:Int) (gd:Bool) (rq bk wt:Int) (w:World) :
  Calls Tryz.prog 49 #[.agg #[.int .i64 1,.int .i64 ky,.int .i64 sl,.int .i64 gn,.bool gd,.int .i64 rq,.int .i64 bk,.int .i64 wt]] w fun e w'=>e=.returned (fV ⟨1,ky,sl,gn,gd,rq,bk,wt⟩).agg∧Below w.heap.size w w':=by
 go_enter Tryz.func49,Tryz.ntmps49
 go_wp2_with fail
 refine (eD ⟨1,ky,sl,gn,gd,rq,bk,wt⟩ w.heap.size (w.heap.size+1+1) 0 true _ (by go_simp) rfl).mono ?_
 rintro e w1 ⟨v1,rfl,R1,hb1⟩
 have B1:=Hu (((((Hv w.heap.size w).alloc (I3 _) (.cells #[.int .i64 1,.int .i64 ky,.int .i64 sl,.int .i64 gn,.bool gd,.int .i64 rq,.int .i64 bk,.int .i64 wt] 72)).alloc (by simp) (.cells #[.int .i64 0,.int .i64 0,.int .i64 0,.int .i64 0,.bool false,.int .i64 0,.int .i64 0,.int .i64 0] 72)).alloc Zs (.cells #[.int .i64 0] 3)).trans (hb1.mono Zs))
 have x0:=aj hb1 ((Hz (w:=World.alloc _ _) _ _ Zs).trans ((Hz (w:=w.alloc (.cells #[.int .i64 1,.int .i64 ky,.int .i64 sl,.int .i64 gn,.bool gd,.int .i64 rq,.int .i64 bk,.int .i64 wt] 72)) (.cells #[.int .i64 0,.int .i64 0,.int .i64 0,.int .i64 0,.bool false,.int .i64 0,.int .i64 0,.int .i64 0] 72) w.heap.size (by simp)).trans (az _ rfl))) Zs
 have x1:=aj hb1 ((Hz (w:=World.alloc _ _) (.cells #[.int .i64 0] 3) (w.heap.size+1) (by simp)).trans (az (w:=w.alloc (.cells #[.int .i64 1,.int .i64 ky,.int .i64 sl,.int .i64 gn,.bool gd,.int .i64 rq,.int .i64 bk,.int .i64 wt] 72)) (.cells #[.int .i64 0,.int .i64 0,.int .i64 0,.int .i64 0,.bool false,.int .i64 0,.int .i64 0,.int .i64 0] 72) (by simp))) Zs
 have x2:=aj hb1 (az (w:=World.alloc _ _) (k:=w.heap.size+1+1) (.cells #[.int .i64 0] 3) (by simp)) Zs
 have s1:=hb1.size
 simp at s1
 obtain ⟨a,cap,hv,_,_,_,p⟩:=aK ⟨⟨0,0,none⟩,0,0,0⟩ R1.1
 obtain ⟨b0,o0,rfl,hb0,q⟩:=p (by simp [eG])
 have hv:v1=.slice (some ⟨b0,o0,none⟩) 1 cap:=hv
 subst hv
 have hB0:=R1.2 _ _ _ rfl
 simp at hB0
 have q00:=q 0 0 (by simp [eG]) (by omega)
 have q01:=q 0 1 (by simp [eG]) (by omega)
 have q02:=q 0 2 (by simp [eG]) (by omega)
 simp [eG,FD.cells] at q00 q01 q02
 clear q p R1
 have HR0:Hid (dV w w1 b0 w1 #[.int .i64 1,.int .i64 ky,.int .i64 sl,.int .i64 gn,.bool gd,.int .i64 rq,.int .i64 bk,.int .i64 wt]):=⟨B1.out,x0,x1,x2,fun _=>rfl,by omega,hb0⟩
 have d0:=ae x0 0
 simp at d0
 have m0:w.heap.size<w1.heap.size:=by omega
 clear hb1 x0 x1 x2
 go_wp2_with fail
 go_loopw [18] (fun i wr=>(i=.int .i64 0∧dV w wr b0 w1 #[.int .i64 1,.int .i64 ky,.int .i64 sl,.int .i64 gn,.bool gd,.int .i64 rq,.int .i64 bk,.int .i64 wt])∨(i=.int .i64 1∧dV w wr b0 w1 #[.int .i64 1,.int .i64 0,.int .i64 sl,.int .i64 gn,.bool gd,.int .i64 rq,.int .i64 bk,.int .i64 wt])) (fun i _=>1 - (intOf i).toNat)
 case atStart=>exact Or.inl ⟨rfl,HR0.out⟩
 case round=>
  clear HR0;rcases hrel with ⟨rfl,hrel⟩|⟨rfl,hrel⟩
  ·have HR:=Hu hrel;obtain ⟨h1,h2,h3,h4,h5,h6,h7⟩:=hrel;have r0:=(h5 _).trans q00;have r1:=(h5 _).trans q01;have r2:=(h5 _).trans q02;have t0:=ae h2 1;have t1:=ap h2 1;simp at t0;have l0:=lt_of_block h2;clear h1 h2 h3 h4 h5;go_wp2;go_roundw
   case rel=>exact Or.inr (⟨by go_num,iO HR.out⟩)
   case measure=>simp [intOf]
  ·obtain ⟨h1,h2,h3,h4,h5,h6,h7⟩:=hrel;have g0:=ap h2 0;have d0:=ae h2 0;have d1:=ae h2 1;have d2:=ae h2 2;have d3:=ae h2 3;have d4:=ae h2 4;have d5:=ae h2 5;have d6:=ae h2 6;have d7:=ae h2 7;have y0:=ae h3 0;have z0:=ap h3 0;have y1:=ae h3 1;have z1:=ap h3 1;have y2:=ae h3 2;have z2:=ap h3 2;have y3:=ae h3 3;have z3:=ap h3 3;have y4:=ae h3 4;have z4:=ap h3 4;have y5:=ae h3 5;have z5:=ap h3 5;have y6:=ae h3 6;have z6:=ap h3 6;have y7:=ae h3 7;have z7:=ap h3 7;simp at d0 d1 d2 d3 d4 d5 d6 d7 y0 y1 y2 y3 y4 y5 y6 y7;have m1:w.heap.size<wr.heap.size:=by omega
   have m2:w.heap.size+1<wr.heap.size:=by omega
   clear h2 h3 h4 h5;go_wp2;refine Ix (v:=.agg #[.int .i64 0,.int .i64 0,.int .i64 sl,.int .i64 gn,.bool gd,.int .i64 rq,.int .i64 bk,.int .i64 wt]) ?_ rfl ⟨rfl,Zb⟩;simp [results,Tryz.results49,go_sem, *]
theorem rest_2 (ky sl gn:Int) (gd:Bool) (rq bk wt:Int) (w:World) :
  Calls Tryz.prog 49 #[.agg #[.int .i64 2,.int .i64 ky,.int .i64 sl,.int .i64 gn,.bool gd,.int .i64 rq,.int .i64 bk,.int .i64 wt]] w fun e w'=>e=.returned (fV ⟨2,ky,sl,gn,gd,rq,bk,wt⟩).agg∧Below w.heap.size w w':=by
 go_enter Tryz.func49,Tryz.ntmps49
 go_wp2_with fail
 refine (eD ⟨2,ky,sl,gn,gd,rq,bk,wt⟩ w.heap.size (w.heap.size+1+1) 0 true _ (by go_simp) rfl).mono ?_
 rintro e w1 ⟨v1,rfl,R1,hb1⟩
 have B1:=Hu (((((Hv w.heap.size w).alloc (I3 _) (.cells #[.int .i64 2,.int .i64 ky,.int .i64 sl,.int .i64 gn,.bool gd,.int .i64 rq,.int .i64 bk,.int .i64 wt] 72)).alloc (by simp) (.cells #[.int .i64 0,.int .i64 0,.int .i64 0,.int .i64 0,.bool false,.int .i64 0,.int .i64 0,.int .i64 0] 72)).alloc Zs (.cells #[.int .i64 0] 3)).trans (hb1.mono Zs))
 have x0:=aj hb1 ((Hz (w:=World.alloc _ _) _ _ Zs).trans ((Hz (w:=w.alloc (.cells #[.int .i64 2,.int .i64 ky,.int .i64 sl,.int .i64 gn,.bool gd,.int .i64 rq,.int .i64 bk,.int .i64 wt] 72)) (.cells #[.int .i64 0,.int .i64 0,.int .i64 0,.int .i64 0,.bool false,.int .i64 0,.int .i64 0,.int .i64 0] 72) w.heap.size (by simp)).trans (az _ rfl))) Zs
 have x1:=aj hb1 ((Hz (w:=World.alloc _ _) (.cells #[.int .i64 0] 3) (w.heap.size+1) (by simp)).trans (az (w:=w.alloc (.cells #[.int .i64 2,.int .i64 ky,.int .i64 sl,.int .i64 gn,.bool gd,.int .i64 rq,.int .i64 bk,.int .i64 wt] 72)) (.cells #[.int .i64 0,.int .i64 0,.int .i64 0,.int .i64 0,.bool false,.int .i64 0,.int .i64 0,.int .i64 0] 72) (by simp))) Zs
 have x2:=aj hb1 (az (w:=World.alloc _ _) (k:=w.heap.size+1+1) (.cells #[.int .i64 0] 3) (by simp)) Zs
 have s1:=hb1.size
 simp at s1
 obtain ⟨a,cap,hv,_,_,_,p⟩:=aK ⟨⟨0,0,none⟩,0,0,0⟩ R1.1
 obtain ⟨b0,o0,rfl,hb0,q⟩:=p (by simp [eG])
 have hv:v1=.slice (some ⟨b0,o0,none⟩) 2 cap:=hv
 subst hv
 have hB0:=R1.2 _ _ _ rfl
 simp at hB0
 have q00:=q 0 0 (by simp [eG]) (by omega)
 have q01:=q 0 1 (by simp [eG]) (by omega)
 have q02:=q 0 2 (by simp [eG]) (by omega)
 have q10:=q 1 0 (by simp [eG]) (by omega)
 have q11:=q 1 1 (by simp [eG]) (by omega)
 have q12:=q 1 2 (by simp [eG]) (by omega)
 simp [eG,FD.cells] at q00 q01 q02 q10 q11 q12
 clear q p R1
 have HR0:Hid (dV w w1 b0 w1 #[.int .i64 2,.int .i64 ky,.int .i64 sl,.int .i64 gn,.bool gd,.int .i64 rq,.int .i64 bk,.int .i64 wt]):=⟨B1.out,x0,x1,x2,fun _=>rfl,by omega,hb0⟩
 have d0:=ae x0 0
 simp at d0
 have m0:w.heap.size<w1.heap.size:=by omega
 clear hb1 x0 x1 x2
 go_wp2_with fail
 go_loopw [18] (fun i wr=>(i=.int .i64 0∧dV w wr b0 w1 #[.int .i64 2,.int .i64 ky,.int .i64 sl,.int .i64 gn,.bool gd,.int .i64 rq,.int .i64 bk,.int .i64 wt])∨(i=.int .i64 1∧dV w wr b0 w1 #[.int .i64 2,.int .i64 ky,.int .i64 0,.int .i64 gn,.bool gd,.int .i64 rq,.int .i64 bk,.int .i64 wt])∨(i=.int .i64 2∧dV w wr b0 w1 #[.int .i64 2,.int .i64 ky,.int .i64 0,.int .i64 0,.bool gd,.int .i64 rq,.int .i64 bk,.int .i64 wt])) (fun i _=>2 - (intOf i).toNat)
 case atStart=>exact Or.inl ⟨rfl,HR0.out⟩
 case round=>
  exact Q18
theorem rest_3 (ky sl gn:Int) (gd:Bool) (rq bk wt:Int) (w:World) :
  Calls Tryz.prog 49 #[.agg #[.int .i64 3,.int .i64 ky,.int .i64 sl,.int .i64 gn,.bool gd,.int .i64 rq,.int .i64 bk,.int .i64 wt]] w fun e w'=>e=.returned (fV ⟨3,ky,sl,gn,gd,rq,bk,wt⟩).agg∧Below w.heap.size w w':=by
 go_enter Tryz.func49,Tryz.ntmps49
 go_wp2_with fail
 refine (eD ⟨3,ky,sl,gn,gd,rq,bk,wt⟩ w.heap.size (w.heap.size+1+1) 0 true _ (by go_simp) rfl).mono ?_
 rintro e w1 ⟨v1,rfl,R1,hb1⟩
 have B1:=Hu (((((Hv w.heap.size w).alloc (I3 _) (.cells #[.int .i64 3,.int .i64 ky,.int .i64 sl,.int .i64 gn,.bool gd,.int .i64 rq,.int .i64 bk,.int .i64 wt] 72)).alloc (by simp) (.cells #[.int .i64 0,.int .i64 0,.int .i64 0,.int .i64 0,.bool false,.int .i64 0,.int .i64 0,.int .i64 0] 72)).alloc Zs (.cells #[.int .i64 0] 3)).trans (hb1.mono Zs))
 have x0:=aj hb1 ((Hz (w:=World.alloc _ _) _ _ Zs).trans ((Hz (w:=w.alloc (.cells #[.int .i64 3,.int .i64 ky,.int .i64 sl,.int .i64 gn,.bool gd,.int .i64 rq,.int .i64 bk,.int .i64 wt] 72)) (.cells #[.int .i64 0,.int .i64 0,.int .i64 0,.int .i64 0,.bool false,.int .i64 0,.int .i64 0,.int .i64 0] 72) w.heap.size (by simp)).trans (az _ rfl))) Zs
 have x1:=aj hb1 ((Hz (w:=World.alloc _ _) (.cells #[.int .i64 0] 3) (w.heap.size+1) (by simp)).trans (az (w:=w.alloc (.cells #[.int .i64 3,.int .i64 ky,.int .i64 sl,.int .i64 gn,.bool gd,.int .i64 rq,.int .i64 bk,.int .i64 wt] 72)) (.cells #[.int .i64 0,.int .i64 0,.int .i64 0,.int .i64 0,.bool false,.int .i64 0,.int .i64 0,.int .i64 0] 72) (by simp))) Zs
 have x2:=aj hb1 (az (w:=World.alloc _ _) (k:=w.heap.size+1+1) (.cells #[.int .i64 0] 3) (by simp)) Zs
 have s1:=hb1.size
 simp at s1
 obtain ⟨a,cap,hv,_,_,_,p⟩:=aK ⟨⟨0,0,none⟩,0,0,0⟩ R1.1
 obtain ⟨b0,o0,rfl,hb0,q⟩:=p (by simp [eG])
 have hv:v1=.slice (some ⟨b0,o0,none⟩) 2 cap:=hv
 subst hv
 have hB0:=R1.2 _ _ _ rfl
 simp at hB0
 have q00:=q 0 0 (by simp [eG]) (by omega)
 have q01:=q 0 1 (by simp [eG]) (by omega)
 have q02:=q 0 2 (by simp [eG]) (by omega)
 have q10:=q 1 0 (by simp [eG]) (by omega)
 have q11:=q 1 1 (by simp [eG]) (by omega)
 have q12:=q 1 2 (by simp [eG]) (by omega)
 simp [eG,FD.cells] at q00 q01 q02 q10 q11 q12
 clear q p R1
 have HR0:Hid (dV w w1 b0 w1 #[.int .i64 3,.int .i64 ky,.int .i64 sl,.int .i64 gn,.bool gd,.int .i64 rq,.int .i64 bk,.int .i64 wt]):=⟨B1.out,x0,x1,x2,fun _=>rfl,by omega,hb0⟩
 have d0:=ae x0 0
 simp at d0
 have m0:w.heap.size<w1.heap.size:=by omega
 clear hb1 x0 x1 x2
 go_wp2_with fail
 go_loopw [18] (fun i wr=>(i=.int .i64 0∧dV w wr b0 w1 #[.int .i64 3,.int .i64 ky,.int .i64 sl,.int .i64 gn,.bool gd,.int .i64 rq,.int .i64 bk,.int .i64 wt])∨(i=.int .i64 1∧dV w wr b0 w1 #[.int .i64 3,.int .i64 ky,.int .i64 0,.int .i64 gn,.bool gd,.int .i64 rq,.int .i64 bk,.int .i64 wt])∨(i=.int .i64 2∧dV w wr b0 w1 #[.int .i64 3,.int .i64 ky,.int .i64 0,.int .i64 0,.bool gd,.int .i64 rq,.int .i64 bk,.int .i64 wt])) (fun i _=>2 - (intOf i).toNat)
 case atStart=>exact Or.inl ⟨rfl,HR0.out⟩
 case round=>
  exact Q18
theorem rest_4 (ky sl gn:Int) (gd:Bool) (rq bk wt:Int) (w:World) :
  Calls Tryz.prog 49 #[.agg #[.int .i64 4,.int .i64 ky,.int .i64 sl,.int .i64 gn,.bool gd,.int .i64 rq,.int .i64 bk,.int .i64 wt]] w fun e w'=>e=.returned (fV ⟨4,ky,sl,gn,gd,rq,bk,wt⟩).agg∧Below w.heap.size w w':=by
 go_enter Tryz.func49,Tryz.ntmps49
 go_wp2_with fail
 refine (eD ⟨4,ky,sl,gn,gd,rq,bk,wt⟩ w.heap.size (w.heap.size+1+1) 0 true _ (by go_simp) rfl).mono ?_
 rintro e w1 ⟨v1,rfl,R1,hb1⟩
 have B1:=Hu (((((Hv w.heap.size w).alloc (I3 _) (.cells #[.int .i64 4,.int .i64 ky,.int .i64 sl,.int .i64 gn,.bool gd,.int .i64 rq,.int .i64 bk,.int .i64 wt] 72)).alloc (by simp) (.cells #[.int .i64 0,.int .i64 0,.int .i64 0,.int .i64 0,.bool false,.int .i64 0,.int .i64 0,.int .i64 0] 72)).alloc Zs (.cells #[.int .i64 0] 3)).trans (hb1.mono Zs))
 have x0:=aj hb1 ((Hz (w:=World.alloc _ _) _ _ Zs).trans ((Hz (w:=w.alloc (.cells #[.int .i64 4,.int .i64 ky,.int .i64 sl,.int .i64 gn,.bool gd,.int .i64 rq,.int .i64 bk,.int .i64 wt] 72)) (.cells #[.int .i64 0,.int .i64 0,.int .i64 0,.int .i64 0,.bool false,.int .i64 0,.int .i64 0,.int .i64 0] 72) w.heap.size (by simp)).trans (az _ rfl))) Zs
 have x1:=aj hb1 ((Hz (w:=World.alloc _ _) (.cells #[.int .i64 0] 3) (w.heap.size+1) (by simp)).trans (az (w:=w.alloc (.cells #[.int .i64 4,.int .i64 ky,.int .i64 sl,.int .i64 gn,.bool gd,.int .i64 rq,.int .i64 bk,.int .i64 wt] 72)) (.cells #[.int .i64 0,.int .i64 0,.int .i64 0,.int .i64 0,.bool false,.int .i64 0,.int .i64 0,.int .i64 0] 72) (by simp))) Zs
 have x2:=aj hb1 (az (w:=World.alloc _ _) (k:=w.heap.size+1+1) (.cells #[.int .i64 0] 3) (by simp)) Zs
 have s1:=hb1.size
 simp at s1
 obtain ⟨a,cap,hv,_,_,_,p⟩:=aK ⟨⟨0,0,none⟩,0,0,0⟩ R1.1
 obtain ⟨b0,o0,rfl,hb0,q⟩:=p (by simp [eG])
 have hv:v1=.slice (some ⟨b0,o0,none⟩) 3 cap:=hv
 subst hv
 have hB0:=R1.2 _ _ _ rfl
 simp at hB0
 have q00:=q 0 0 (by simp [eG]) (by omega)
 have q01:=q 0 1 (by simp [eG]) (by omega)
 have q02:=q 0 2 (by simp [eG]) (by omega)
 have q10:=q 1 0 (by simp [eG]) (by omega)
 have q11:=q 1 1 (by simp [eG]) (by omega)
 have q12:=q 1 2 (by simp [eG]) (by omega)
 have q20:=q 2 0 (by simp [eG]) (by omega)
 have q21:=q 2 1 (by simp [eG]) (by omega)
 have q22:=q 2 2 (by simp [eG]) (by omega)
 simp [eG,FD.cells] at q00 q01 q02 q10 q11 q12 q20 q21 q22
 clear q p R1
 have HR0:Hid (dV w w1 b0 w1 #[.int .i64 4,.int .i64 ky,.int .i64 sl,.int .i64 gn,.bool gd,.int .i64 rq,.int .i64 bk,.int .i64 wt]):=⟨B1.out,x0,x1,x2,fun _=>rfl,by omega,hb0⟩
 have d0:=ae x0 0
 simp at d0
 have d4:=ae x0 4
 have g4:=ap x0 4
 simp at d4
 have m0:w.heap.size<w1.heap.size:=by omega
 clear hb1 x0 x1 x2
 go_wp2_with fail
 go_loopw [18] (fun i wr=>(i=.int .i64 0∧dV w wr b0 w1 #[.int .i64 4,.int .i64 ky,.int .i64 sl,.int .i64 gn,.bool false,.int .i64 rq,.int .i64 bk,.int .i64 wt])∨(i=.int .i64 1∧dV w wr b0 w1 #[.int .i64 4,.int .i64 ky,.int .i64 0,.int .i64 gn,.bool false,.int .i64 rq,.int .i64 bk,.int .i64 wt])∨(i=.int .i64 2∧dV w wr b0 w1 #[.int .i64 4,.int .i64 ky,.int .i64 0,.int .i64 0,.bool false,.int .i64 rq,.int .i64 bk,.int .i64 wt])∨(i=.int .i64 3∧dV w wr b0 w1 #[.int .i64 4,.int .i64 ky,.int .i64 0,.int .i64 0,.bool false,.int .i64 rq,.int .i64 bk,.int .i64 wt])) (fun i _=>3 - (intOf i).toNat)
 case atStart=>
  refine Or.inl ⟨rfl,?_⟩;obtain ⟨h1,h2,h3,h4,h5,h6,h7⟩:=HR0.out;refine ⟨h1.setCell (by simp) _,aP h2 _,aU h3 (by omega),aU h4 (by omega),fun o=>?_,h6,by simpa using h7⟩;rw [aR (by omega)]
 case round=>
  clear HR0;rcases hrel with ⟨rfl,hrel⟩|⟨rfl,hrel⟩|⟨rfl,hrel⟩|⟨rfl,hrel⟩
  ·have HR:=Hu hrel;obtain ⟨h1,h2,h3,h4,h5,h6,h7⟩:=hrel;have r0:=(h5 _).trans q00;have r1:=(h5 _).trans q01;have r2:=(h5 _).trans q02;have t0:=ae h2 2;have t1:=ap h2 2;exact Q34
  ·have HR:=Hu hrel;obtain ⟨h1,h2,h3,h4,h5,h6,h7⟩:=hrel;have r0:=(h5 _).trans q10;have r1:=(h5 _).trans q11;have r2:=(h5 _).trans q12;have t0:=ae h2 3;have t1:=ap h2 3;exact Q102
  ·have HR:=Hu hrel;obtain ⟨h1,h2,h3,h4,h5,h6,h7⟩:=hrel;have r0:=(h5 _).trans q20;have r1:=(h5 _).trans q21;have r2:=(h5 _).trans q22;have t0:=ae h4 0;have t1:=ap h4 0;simp at t0;have l0:=lt_of_block h4;clear h1 h2 h3 h4 h5;go_wp2;go_roundw
   case rel=>exact Or.inr (Or.inr (Or.inr (⟨by go_num,xj HR.out⟩)))
   case measure=>simp [intOf]
  ·obtain ⟨h1,h2,h3,h4,h5,h6,h7⟩:=hrel;have g0:=ap h2 0;have d0:=ae h2 0;have d1:=ae h2 1;have d2:=ae h2 2;have d3:=ae h2 3;have d4:=ae h2 4;have d5:=ae h2 5;have d6:=ae h2 6;have d7:=ae h2 7;have y0:=ae h3 0;have z0:=ap h3 0;have y1:=ae h3 1;have z1:=ap h3 1;have y2:=ae h3 2;have z2:=ap h3 2;have y3:=ae h3 3;have z3:=ap h3 3;have y4:=ae h3 4;have z4:=ap h3 4;have y5:=ae h3 5;have z5:=ap h3 5;have y6:=ae h3 6;have z6:=ap h3 6;have y7:=ae h3 7;have z7:=ap h3 7;simp at d0 d1 d2 d3 d4 d5 d6 d7 y0 y1 y2 y3 y4 y5 y6 y7;have m1:w.heap.size<wr.heap.size:=by omega
   have m2:w.heap.size+1<wr.heap.size:=by omega
   clear h2 h3 h4 h5;go_wp2;refine Ix (v:=.agg #[.int .i64 0,.int .i64 ky,.int .i64 0,.int .i64 0,.bool false,.int .i64 rq,.int .i64 bk,.int .i64 wt]) ?_ rfl ⟨rfl,Zb⟩;simp [results,Tryz.results49,go_sem, *]
theorem rest_5 (ky sl gn:Int) (gd:Bool) (rq bk wt:Int) (w:World) :
  Calls Tryz.prog 49 #[.agg #[.int .i64 5,.int .i64 ky,.int .i64 sl,.int .i64 gn,.bool gd,.int .i64 rq,.int .i64 bk,.int .i64 wt]] w fun e w'=>e=.returned (fV ⟨5,ky,sl,gn,gd,rq,bk,wt⟩).agg∧Below w.heap.size w w':=by
 go_enter Tryz.func49,Tryz.ntmps49
 go_wp2_with fail
 refine (eD ⟨5,ky,sl,gn,gd,rq,bk,wt⟩ w.heap.size (w.heap.size+1+1) 0 true _ (by go_simp) rfl).mono ?_
 rintro e w1 ⟨v1,rfl,R1,hb1⟩
 have B1:=Hu (((((Hv w.heap.size w).alloc (I3 _) (.cells #[.int .i64 5,.int .i64 ky,.int .i64 sl,.int .i64 gn,.bool gd,.int .i64 rq,.int .i64 bk,.int .i64 wt] 72)).alloc (by simp) (.cells #[.int .i64 0,.int .i64 0,.int .i64 0,.int .i64 0,.bool false,.int .i64 0,.int .i64 0,.int .i64 0] 72)).alloc Zs (.cells #[.int .i64 0] 3)).trans (hb1.mono Zs))
 have x0:=aj hb1 ((Hz (w:=World.alloc _ _) _ _ Zs).trans ((Hz (w:=w.alloc (.cells #[.int .i64 5,.int .i64 ky,.int .i64 sl,.int .i64 gn,.bool gd,.int .i64 rq,.int .i64 bk,.int .i64 wt] 72)) (.cells #[.int .i64 0,.int .i64 0,.int .i64 0,.int .i64 0,.bool false,.int .i64 0,.int .i64 0,.int .i64 0] 72) w.heap.size (by simp)).trans (az _ rfl))) Zs
 have x1:=aj hb1 ((Hz (w:=World.alloc _ _) (.cells #[.int .i64 0] 3) (w.heap.size+1) (by simp)).trans (az (w:=w.alloc (.cells #[.int .i64 5,.int .i64 ky,.int .i64 sl,.int .i64 gn,.bool gd,.int .i64 rq,.int .i64 bk,.int .i64 wt] 72)) (.cells #[.int .i64 0,.int .i64 0,.int .i64 0,.int .i64 0,.bool false,.int .i64 0,.int .i64 0,.int .i64 0] 72) (by simp))) Zs
 have x2:=aj hb1 (az (w:=World.alloc _ _) (k:=w.heap.size+1+1) (.cells #[.int .i64 0] 3) (by simp)) Zs
 have s1:=hb1.size
 simp at s1
 obtain ⟨a,cap,hv,_,_,_,p⟩:=aK ⟨⟨0,0,none⟩,0,0,0⟩ R1.1
 obtain ⟨b0,o0,rfl,hb0,q⟩:=p (by simp [eG])
 have hv:v1=.slice (some ⟨b0,o0,none⟩) 3 cap:=hv
 subst hv
 have hB0:=R1.2 _ _ _ rfl
 simp at hB0
 have q00:=q 0 0 (by simp [eG]) (by omega)
 have q01:=q 0 1 (by simp [eG]) (by omega)
 have q02:=q 0 2 (by simp [eG]) (by omega)
 have q10:=q 1 0 (by simp [eG]) (by omega)
 have q11:=q 1 1 (by simp [eG]) (by omega)
 have q12:=q 1 2 (by simp [eG]) (by omega)
 have q20:=q 2 0 (by simp [eG]) (by omega)
 have q21:=q 2 1 (by simp [eG]) (by omega)
 have q22:=q 2 2 (by simp [eG]) (by omega)
 simp [eG,FD.cells] at q00 q01 q02 q10 q11 q12 q20 q21 q22
 clear q p R1
 have HR0:Hid (dV w w1 b0 w1 #[.int .i64 5,.int .i64 ky,.int .i64 sl,.int .i64 gn,.bool gd,.int .i64 rq,.int .i64 bk,.int .i64 wt]):=⟨B1.out,x0,x1,x2,fun _=>rfl,by omega,hb0⟩
 have d0:=ae x0 0
 simp at d0
 have m0:w.heap.size<w1.heap.size:=by omega
 clear hb1 x0 x1 x2
 go_wp2_with fail
 go_loopw [18] (fun i wr=>(i=.int .i64 0∧dV w wr b0 w1 #[.int .i64 5,.int .i64 ky,.int .i64 sl,.int .i64 gn,.bool gd,.int .i64 rq,.int .i64 bk,.int .i64 wt])∨(i=.int .i64 1∧dV w wr b0 w1 #[.int .i64 5,.int .i64 ky,.int .i64 sl,.int .i64 gn,.bool gd,.int .i64 0,.int .i64 bk,.int .i64 wt])∨(i=.int .i64 2∧dV w wr b0 w1 #[.int .i64 5,.int .i64 ky,.int .i64 sl,.int .i64 gn,.bool gd,.int .i64 0,.int .i64 0,.int .i64 wt])∨(i=.int .i64 3∧dV w wr b0 w1 #[.int .i64 5,.int .i64 ky,.int .i64 sl,.int .i64 gn,.bool gd,.int .i64 0,.int .i64 0,.int .i64 0])) (fun i _=>3 - (intOf i).toNat)
 case atStart=>exact Or.inl ⟨rfl,HR0.out⟩
 case round=>
  clear HR0;rcases hrel with ⟨rfl,hrel⟩|⟨rfl,hrel⟩|⟨rfl,hrel⟩|⟨rfl,hrel⟩
  ·exact Q93
  ·have HR:=Hu hrel;obtain ⟨h1,h2,h3,h4,h5,h6,h7⟩:=hrel;have r0:=(h5 _).trans q10;have r1:=(h5 _).trans q11;have r2:=(h5 _).trans q12;have t0:=ae h2 6;have t1:=ap h2 6;exact Q102
  ·have HR:=Hu hrel;obtain ⟨h1,h2,h3,h4,h5,h6,h7⟩:=hrel;have r0:=(h5 _).trans q20;have r1:=(h5 _).trans q21;have r2:=(h5 _).trans q22;have t0:=ae h2 7;have t1:=ap h2 7;simp at t0;have l0:=lt_of_block h2;clear h1 h2 h3 h4 h5;go_wp2;go_roundw
   case rel=>exact Or.inr (Or.inr (Or.inr (⟨by go_num,iO HR.out⟩)))
   case measure=>simp [intOf]
  ·obtain ⟨h1,h2,h3,h4,h5,h6,h7⟩:=hrel;have g0:=ap h2 0;have d0:=ae h2 0;have d1:=ae h2 1;have d2:=ae h2 2;have d3:=ae h2 3;have d4:=ae h2 4;have d5:=ae h2 5;have d6:=ae h2 6;have d7:=ae h2 7;have y0:=ae h3 0;have z0:=ap h3 0;have y1:=ae h3 1;have z1:=ap h3 1;have y2:=ae h3 2;have z2:=ap h3 2;have y3:=ae h3 3;have z3:=ap h3 3;have y4:=ae h3 4;have z4:=ap h3 4;have y5:=ae h3 5;have z5:=ap h3 5;have y6:=ae h3 6;have z6:=ap h3 6;have y7:=ae h3 7;have z7:=ap h3 7;simp at d0 d1 d2 d3 d4 d5 d6 d7 y0 y1 y2 y3 y4 y5 y6 y7;have m1:w.heap.size<wr.heap.size:=by omega
   have m2:w.heap.size+1<wr.heap.size:=by omega
   clear h2 h3 h4 h5;go_wp2;refine Ix (v:=.agg #[.int .i64 0,.int .i64 ky,.int .i64 sl,.int .i64 gn,.bool gd,.int .i64 0,.int .i64 0,.int .i64 0]) ?_ rfl ⟨rfl,Zb⟩;simp [results,Tryz.results49,go_sem, *]
theorem rest_6 (ky sl gn:Int) (gd:Bool) (rq bk wt:Int) (w:World) :
  Calls Tryz.prog 49 #[.agg #[.int .i64 6,.int .i64 ky,.int .i64 sl,.int .i64 gn,.bool gd,.int .i64 rq,.int .i64 bk,.int .i64 wt]] w fun e w'=>e=.returned (fV ⟨6,ky,sl,gn,gd,rq,bk,wt⟩).agg∧Below w.heap.size w w':=by
 go_enter Tryz.func49,Tryz.ntmps49
 go_wp2_with fail
 refine (eD ⟨6,ky,sl,gn,gd,rq,bk,wt⟩ w.heap.size (w.heap.size+1+1) 0 true _ (by go_simp) rfl).mono ?_
 rintro e w1 ⟨v1,rfl,R1,hb1⟩
 have B1:=Hu (((((Hv w.heap.size w).alloc (I3 _) (.cells #[.int .i64 6,.int .i64 ky,.int .i64 sl,.int .i64 gn,.bool gd,.int .i64 rq,.int .i64 bk,.int .i64 wt] 72)).alloc (by simp) (.cells #[.int .i64 0,.int .i64 0,.int .i64 0,.int .i64 0,.bool false,.int .i64 0,.int .i64 0,.int .i64 0] 72)).alloc Zs (.cells #[.int .i64 0] 3)).trans (hb1.mono Zs))
 have x0:=aj hb1 ((Hz (w:=World.alloc _ _) _ _ Zs).trans ((Hz (w:=w.alloc (.cells #[.int .i64 6,.int .i64 ky,.int .i64 sl,.int .i64 gn,.bool gd,.int .i64 rq,.int .i64 bk,.int .i64 wt] 72)) (.cells #[.int .i64 0,.int .i64 0,.int .i64 0,.int .i64 0,.bool false,.int .i64 0,.int .i64 0,.int .i64 0] 72) w.heap.size (by simp)).trans (az _ rfl))) Zs
 have x1:=aj hb1 ((Hz (w:=World.alloc _ _) (.cells #[.int .i64 0] 3) (w.heap.size+1) (by simp)).trans (az (w:=w.alloc (.cells #[.int .i64 6,.int .i64 ky,.int .i64 sl,.int .i64 gn,.bool gd,.int .i64 rq,.int .i64 bk,.int .i64 wt] 72)) (.cells #[.int .i64 0,.int .i64 0,.int .i64 0,.int .i64 0,.bool false,.int .i64 0,.int .i64 0,.int .i64 0] 72) (by simp))) Zs
 have x2:=aj hb1 (az (w:=World.alloc _ _) (k:=w.heap.size+1+1) (.cells #[.int .i64 0] 3) (by simp)) Zs
 have s1:=hb1.size
 simp at s1
 obtain ⟨a,cap,hv,_,_,_,p⟩:=aK ⟨⟨0,0,none⟩,0,0,0⟩ R1.1
 obtain ⟨b0,o0,rfl,hb0,q⟩:=p (by simp [eG])
 have hv:v1=.slice (some ⟨b0,o0,none⟩) 2 cap:=hv
 subst hv
 have hB0:=R1.2 _ _ _ rfl
 simp at hB0
 have q00:=q 0 0 (by simp [eG]) (by omega)
 have q01:=q 0 1 (by simp [eG]) (by omega)
 have q02:=q 0 2 (by simp [eG]) (by omega)
 have q10:=q 1 0 (by simp [eG]) (by omega)
 have q11:=q 1 1 (by simp [eG]) (by omega)
 have q12:=q 1 2 (by simp [eG]) (by omega)
 simp [eG,FD.cells] at q00 q01 q02 q10 q11 q12
 clear q p R1
 have HR0:Hid (dV w w1 b0 w1 #[.int .i64 6,.int .i64 ky,.int .i64 sl,.int .i64 gn,.bool gd,.int .i64 rq,.int .i64 bk,.int .i64 wt]):=⟨B1.out,x0,x1,x2,fun _=>rfl,by omega,hb0⟩
 have d0:=ae x0 0
 simp at d0
 have m0:w.heap.size<w1.heap.size:=by omega
 clear hb1 x0 x1 x2
 go_wp2_with fail
 go_loopw [18] (fun i wr=>(i=.int .i64 0∧dV w wr b0 w1 #[.int .i64 6,.int .i64 ky,.int .i64 sl,.int .i64 gn,.bool gd,.int .i64 rq,.int .i64 bk,.int .i64 wt])∨(i=.int .i64 1∧dV w wr b0 w1 #[.int .i64 6,.int .i64 ky,.int .i64 sl,.int .i64 gn,.bool gd,.int .i64 0,.int .i64 bk,.int .i64 wt])∨(i=.int .i64 2∧dV w wr b0 w1 #[.int .i64 6,.int .i64 ky,.int .i64 sl,.int .i64 gn,.bool gd,.int .i64 0,.int .i64 0,.int .i64 wt])) (fun i _=>2 - (intOf i).toNat)
 case atStart=>exact Or.inl ⟨rfl,HR0.out⟩
 case round=>
  clear HR0;rcases hrel with ⟨rfl,hrel⟩|⟨rfl,hrel⟩|⟨rfl,hrel⟩
  ·exact Q93
  ·have HR:=Hu hrel;obtain ⟨h1,h2,h3,h4,h5,h6,h7⟩:=hrel;have r0:=(h5 _).trans q10;have r1:=(h5 _).trans q11;have r2:=(h5 _).trans q12;have t0:=ae h2 6;have t1:=ap h2 6;exact Q107
  ·obtain ⟨h1,h2,h3,h4,h5,h6,h7⟩:=hrel;have g0:=ap h2 0;have d0:=ae h2 0;have d1:=ae h2 1;have d2:=ae h2 2;have d3:=ae h2 3;have d4:=ae h2 4;have d5:=ae h2 5;have d6:=ae h2 6;have d7:=ae h2 7;have y0:=ae h3 0;have z0:=ap h3 0;have y1:=ae h3 1;have z1:=ap h3 1;have y2:=ae h3 2;have z2:=ap h3 2;have y3:=ae h3 3;have z3:=ap h3 3;have y4:=ae h3 4;have z4:=ap h3 4;have y5:=ae h3 5;have z5:=ap h3 5;have y6:=ae h3 6;have z6:=ap h3 6;have y7:=ae h3 7;have z7:=ap h3 7;simp at d0 d1 d2 d3 d4 d5 d6 d7 y0 y1 y2 y3 y4 y5 y6 y7;have m1:w.heap.size<wr.heap.size:=by omega
   have m2:w.heap.size+1<wr.heap.size:=by omega
   clear h2 h3 h4 h5;go_wp2;refine Ix (v:=.agg #[.int .i64 0,.int .i64 ky,.int .i64 sl,.int .i64 gn,.bool gd,.int .i64 0,.int .i64 0,.int .i64 wt]) ?_ rfl ⟨rfl,Zb⟩;simp [results,Tryz.results49,go_sem, *]
theorem rest_7 (ky sl gn:Int) (gd:Bool) (rq bk wt:Int) (w:World) :
  Calls Tryz.prog 49 #[.agg #[.int .i64 7,.int .i64 ky,.int .i64 sl,.int .i64 gn,.bool gd,.int .i64 rq,.int .i64 bk,.int .i64 wt]] w fun e w'=>e=.returned (fV ⟨7,ky,sl,gn,gd,rq,bk,wt⟩).agg∧Below w.heap.size w w':=by
 go_enter Tryz.func49,Tryz.ntmps49
 go_wp2_with fail
 refine (eD ⟨7,ky,sl,gn,gd,rq,bk,wt⟩ w.heap.size (w.heap.size+1+1) 0 true _ (by go_simp) rfl).mono ?_
 rintro e w1 ⟨v1,rfl,R1,hb1⟩
 have B1:=Hu (((((Hv w.heap.size w).alloc (I3 _) (.cells #[.int .i64 7,.int .i64 ky,.int .i64 sl,.int .i64 gn,.bool gd,.int .i64 rq,.int .i64 bk,.int .i64 wt] 72)).alloc (by simp) (.cells #[.int .i64 0,.int .i64 0,.int .i64 0,.int .i64 0,.bool false,.int .i64 0,.int .i64 0,.int .i64 0] 72)).alloc Zs (.cells #[.int .i64 0] 3)).trans (hb1.mono Zs))
 have x0:=aj hb1 ((Hz (w:=World.alloc _ _) _ _ Zs).trans ((Hz (w:=w.alloc (.cells #[.int .i64 7,.int .i64 ky,.int .i64 sl,.int .i64 gn,.bool gd,.int .i64 rq,.int .i64 bk,.int .i64 wt] 72)) (.cells #[.int .i64 0,.int .i64 0,.int .i64 0,.int .i64 0,.bool false,.int .i64 0,.int .i64 0,.int .i64 0] 72) w.heap.size (by simp)).trans (az _ rfl))) Zs
 have x1:=aj hb1 ((Hz (w:=World.alloc _ _) (.cells #[.int .i64 0] 3) (w.heap.size+1) (by simp)).trans (az (w:=w.alloc (.cells #[.int .i64 7,.int .i64 ky,.int .i64 sl,.int .i64 gn,.bool gd,.int .i64 rq,.int .i64 bk,.int .i64 wt] 72)) (.cells #[.int .i64 0,.int .i64 0,.int .i64 0,.int .i64 0,.bool false,.int .i64 0,.int .i64 0,.int .i64 0] 72) (by simp))) Zs
 have x2:=aj hb1 (az (w:=World.alloc _ _) (k:=w.heap.size+1+1) (.cells #[.int .i64 0] 3) (by simp)) Zs
 have s1:=hb1.size
 simp at s1
 obtain ⟨a,cap,hv,_⟩:=aq R1.1
 have hv:v1=.slice a 0 cap:=hv
 subst hv
 clear R1
 have d0:=ae x0 0
 have g0:=ap x0 0
 have d1:=ae x0 1
 have d2:=ae x0 2
 have d3:=ae x0 3
 have d4:=ae x0 4
 have d5:=ae x0 5
 have d6:=ae x0 6
 have d7:=ae x0 7
 have y0:=ae x1 0
 have z0:=ap x1 0
 have y1:=ae x1 1
 have z1:=ap x1 1
 have y2:=ae x1 2
 have z2:=ap x1 2
 have y3:=ae x1 3
 have z3:=ap x1 3
 have y4:=ae x1 4
 have z4:=ap x1 4
 have y5:=ae x1 5
 have z5:=ap x1 5
 have y6:=ae x1 6
 have z6:=ap x1 6
 have y7:=ae x1 7
 have z7:=ap x1 7
 simp at d0 d1 d2 d3 d4 d5 d6 d7 y0 y1 y2 y3 y4 y5 y6 y7
 have B1':=B1.out
 have m0:w.heap.size<w1.heap.size:=by omega
 have m1:w.heap.size+1<w1.heap.size:=by omega
 clear hb1 x0 x1 x2
 go_wp2_with fail
 refine wp_loop_rounds 1 ?_
 rw [rounds_succ]
 go_wp2
 refine Ix (v:=.agg #[.int .i64 0,.int .i64 ky,.int .i64 sl,.int .i64 gn,.bool gd,.int .i64 rq,.int .i64 bk,.int .i64 wt]) ?_ rfl ⟨rfl,Zb⟩
 simp [results,Tryz.results49,go_sem, *]
theorem Be:(Tryz.prog.info? 143).map (fun i=>(i.zero,i.size,i.bytes))=some (some (.agg #[.int .i64 0,.bool false,.int .i64 0,.int .i64 0]),4,32):=by kernel_rfl
def fS (n:Nat):List Sl:=List.replicate n Sl.zero
theorem zZ (n:Nat):∀ c∈(fS n).map Sl.cells,c.length=4:=by
 exact Q29
theorem yg (n:Nat):(madeCells #[.int .i64 0,.bool false,.int .i64 0,.int .i64 0] (n*4)).toList=((fS n).map Sl.cells).flatten:=by
 have h:=fy #[.int .i64 0,.bool false,.int .i64 0,.int .i64 0] n (by decide);refine h.trans ?_;unfold fS;rw [List.map_replicate]
 rfl
end
end Go.Proofs.YtfliffgmeobclaaGreat
