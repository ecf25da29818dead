/- Texts of the row's proof. Conditions: none. -/
import Derived.Test.YtennppmadmgfoaaGreatDoorK13
import Derived.Test.YtennppmadmgfoaaGreatDoorK16
namespace Go.Proofs.YtennppmadmgfoaaGreatDoor
open Proofs.Tryz
set_option maxRecDepth 100000
set_option maxHeartbeats 8000000
section
open Go.RowKit
theorem Q65 {p:Prop} (h:p:=by
 clear hK K;refine Z1 9 (fun K hK=>?_);go_simp
 go_at_call 147
 refine HIns.out.mono ?_;rintro e w5 ⟨a',cap',rfl,c5,f5,S5,HRest⟩;go_wp2_with fail;refine Zk hK (hS:=by exact S5) fun hHeld=>?_;clear hK K;refine dl 10 ?_;refine Zt 12 ?_;refine Z1 13 (fun K hK=>?_);go_simp;refine Zk hK (hS:=by (obtain ⟨s0,s1,s2,s3,s4,s5⟩:=hHeld;exact ⟨(aW (by omega)).trans s0,(aW (by omega)).trans s1,(aW (by omega)).trans s2,(aW (by omega)).trans s3,(aW (by omega)).trans s4,(aW (by omega)).trans s5⟩)) fun hHeld=>?_;clear hK K;refine Zd ?_;obtain ⟨h5,ho1,ho2,hb5⟩:=HRest.out
 have HO:Hid (BkO B (w5.setCell ⟨p,0,none⟩ (.slice a' (L.length+1) cap')) p (.slice a' (L.length+1) cap') v2 (eB L (oH L bk) ⟨bk,1,wt,0,0,0⟩) R):=by
  refine ⟨hB,aR h5 _,?_,?_⟩
  ·rw [FO _ _ _ (rt L bk)];exact ownsRow_setCell_other ho1 (kG ho1 h5 (by decide)) _
  ·exact ownsRow_setCell_other ho2 (kG ho2 h5 (by decide)) _
 have HBF:=KL (hb5.setCell (p:=⟨p,0,none⟩) hB (.slice a' (L.length+1) cap'));clear h5 ho1 ho2 hb5 c5 f5;go_wp2
 all_goals first|(go_ret;exact ⟨rfl,⟨_,HO.out⟩,HBF.out⟩)|exact Zx):p:=h
theorem Q10 {p:Prop} (h:p:=by
 clear hk;refine wp_region_noPanic ?_;refine wp_region_held_drew (S:=(fun w'=>w'.cell? ⟨w.heap.size+1,0,none⟩=some (.int .i64 bk)/\w'.cell? ⟨w.heap.size+1,1,none⟩=some (.int .i64 1)/\w'.cell? ⟨w.heap.size+1,2,none⟩=some (.int .i64 wt)/\w'.cell? ⟨w.heap.size+1,3,none⟩=some (.int .i64 0)/\w'.cell? ⟨w.heap.size+1,4,none⟩=some (.int .i64 0)/\w'.cell? ⟨w.heap.size+1,5,none⟩=some (.int .i64 0))) (by kernel_rfl) ?hb (fun hHeld=>?_)
 case hb=>exact ⟨zx0,zx1,zx2,zx3,zx4,zx5⟩
 have lS:w.heap.size+1<wz.heap.size:=zs;have pS:p≠w.heap.size+1:=by omega
 refine eY 0 ?_;refine Zt 4 ?_;refine dl 6 ?_;refine Z2 5 8 (fun K hK=>?_) (fun K hK=>?_)
 ·skip
  go_simp;refine Zk hK (hS:=by exact hHeld) fun hHeld=>?_;clear hK K;refine Z1 8 (fun K hK=>?_);go_simp;refine Zk hK (hS:=by (obtain ⟨s0,s1,s2,s3,s4,s5⟩:=hHeld;exact ⟨aI _ s0,aI _ s1,aI _ s2,aI _ s3,aI _ s4,aI _ s5⟩)) fun hHeld=>?_;exact Q65
 ·skip
  go_simp;refine Zk hK (hS:=by (obtain ⟨s0,s1,s2,s3,s4,s5⟩:=hHeld;exact ⟨aI _ s0,aI _ s1,aI _ s2,aI _ s3,aI _ s4,aI _ s5⟩)) fun hHeld=>?_;clear hK K;refine Z1 5 (fun K hK=>?_);go_simp;refine Zk hK (hS:=by exact hHeld) fun hHeld=>?_;exact Q65):p:=h
theorem Q13 {p:Prop} (h:p:=by
 have LB2:Hid (w.heap.size+1+1<B):=by show _<_;omega
 have HFB:Hid (Below w.heap.size w (w6.setCell ⟨p,1,none⟩ (.slice x3 (R.length+1) y3))):=KZ6.out.2.2.2.2.setCell (by show _<=p;omega) _;clear hx6 hN6 c6 f6;go_wp2_with fail
 go_region
 all_goals go_wp2
 all_goals (refine LN (v:=.tuple #[.agg #[.slice x1 L'.length y1,.slice x3 (R.length+1) y3],.int .i64 ans,.bool true,.int .i64 0]) ?_ rfl ⟨_,_,rfl,aJ (aD (aD HF1.out (p:=⟨w.heap.size+1+1,0,none⟩) LB2.out _) (p:=⟨w.heap.size+1+1,1,none⟩) LB2.out _) (by first|omega|(simp;done)|(simp;omega)),aJ (aD (aD HF2.out (p:=⟨w.heap.size+1+1,0,none⟩) LB2.out _) (p:=⟨w.heap.size+1+1,1,none⟩) LB2.out _) (by first|omega|(simp;done)|(simp;omega)),((HFB.out.setCell (by simp;omega) _).setCell (by simp;omega) _).drew⟩;simp [results,results69,go_sem, *])):p:=h
theorem Q20 {p:Prop} (h:p:=by
 intro v' w6 ho hg;have hh:=KZ.out.hh;have npx:=kG KZ.out.o2 hh (by decide);have nlt:∀ b,(Value.slice x2 R.length y2).ownBlock=some b->B<=b:=fun b hb=>(KZ.out.o2.lt b hb).1;have hp6:w6.heap[p]?=some (.cells #[.slice x1 L'.length y1,.slice x2 R.length y2] 259 (0,0)):=(hg.block p (by simp;omega) (Ne.symm npx)).trans ((KQ (w:=wz.drew) _ _ lpz).trans hh);have hr6:∀ o,w6.cell? ⟨w.heap.size+1,o,none⟩=wz.cell? ⟨w.heap.size+1,o,none⟩:=fun o=>Lg (a:=⟨w.heap.size+1,o,none⟩) ((hg.block (w.heap.size+1) (by simp;omega) (fun e=>by have:=nlt _ e.symm;omega)).trans (KQ (w:=wz.drew) _ _ (by show _<wz.heap.size;omega)));refine ⟨⟨(hr6 0).trans e0,(hr6 1).trans e1',(hr6 2).trans e2,(hr6 3).trans e3,(hr6 4).trans e4⟩,by rw [ae hp6];rfl,az hp6 1,hp6,?_,by simpa using ho,?_,?_⟩
 ·obtain ⟨q1,q2|⟨gg,c2,cur,q3,q4,q5,q6⟩⟩:=KZ.out.o1
  ·exact ⟨q1,.inl q2⟩
  ·exact ⟨q1,.inr ⟨gg,c2,cur,q3,q4,(hg.block gg (by have:=lt_of_block q5;simp;omega) (Ne.symm (kG KZ.out.o2 q5 (by decide)))).trans ((KQ (w:=wz.drew) _ _ (lt_of_block q5)).trans q5),q6⟩⟩
 ·exact (hg.block _ (by simp;omega) (fun e=>by have:=nlt _ e.symm;omega)).trans ((KQ (w:=wz.drew) _ _ (by show _<wz.heap.size;omega)).trans hNz)
 ·exact ((BZ.out.drew).alloc (by have:=BZ.out.size;exact this) _).grown hg (by have:=BZ.out.size;simp;omega) (fun b hb=>by have:=nlt b hb;omega)):p:=h
theorem Q37 {p:Prop} (h:p:=by
 have hb5:=hg.block (w.heap.size+1) (by show _<_;simp;omega) nx;have e5:∀ o,w5.cell? ⟨w.heap.size+1,o,none⟩=(wz.alloc (.cells #[.int .i64 bk,.int .i64 1,.int .i64 wt,.int .i64 0,.int .i64 0,.int .i64 0] 173)).drew.cell? ⟨w.heap.size+1,o,none⟩:=fun o=>Lg (a:=⟨w.heap.size+1,o,none⟩) hb5;exact ⟨(e5 0).trans (aI (w:=wz) _ zx0),(e5 1).trans (aI (w:=wz) _ zx1),(e5 2).trans (aI (w:=wz) _ zx2),(e5 3).trans (aI (w:=wz) _ zx3),(e5 4).trans (aI (w:=wz) _ zx4),(e5 5).trans (aI (w:=wz) _ zx5)⟩):p:=h
theorem Q55 {p:Prop} (h:p:=by
 have hb1:Below B w (wz.alloc (.cells #[.int .i64 bk,.int .i64 1,.int .i64 wt,.int .i64 0,.int .i64 0,.int .i64 0] 173)).drew:=(BZ.out.alloc (by have:=KZ.out.hB;omega) _).drew;refine hb1.grown hg (by have:=KZ.out.hB;show B<=_;simp;omega) (fun r hr=>(KZ.out.o1.lt r hr).1)):p:=h
theorem Q63 {p:Prop} (h:p:=by
 clear hK K hown' hgrow;(try simp only [Act.put,List.setIfInBounds_toArray,List.set_cons_zero,List.set_cons_succ]);refine dl 9 ?_;refine Zt 11 ?_;refine Z1 12 (fun K hK=>?_);go_simp;refine Zk hK (hS:=by (obtain ⟨s0,s1,s2,s3,s4⟩:=hHeld;exact ⟨(aW (by omega)).trans s0,(aW (by omega)).trans s1,(aW (by omega)).trans s2,(aW (by omega)).trans s3,(aW (by omega)).trans s4⟩)) fun hHeld=>?_;clear hK K;refine Zd ?_;have hx6:=HRest.out.2.2.1;have KZ6:=KL (HRest.out.2.2);have z0:=ae (aR (j:=1) hx6 (.slice x3 (R.length+1) y3)) 0;have z1:=ae (aR (j:=1) hx6 (.slice x3 (R.length+1) y3)) 1;simp at z0 z1;obtain ⟨u0,u1,u2,u3,u4⟩:=hHeld;have lp6:p<w6.heap.size:=lt_of_block hx6;have ln6:w.heap.size+1+1<w6.heap.size:=by omega
 have hN6:=KZ6.out.2.2.2.1;have n0:=(aW (u:=.slice x3 (R.length+1) y3) (g:=p) (i:=1) ne1).trans (ae hN6 0);have n1:=(aW (u:=.slice x3 (R.length+1) y3) (g:=p) (i:=1) ne1).trans (ae hN6 1);have g0:=az (aY (j:=1) (u:=.slice x3 (R.length+1) y3) hN6 ne1) 0;have g1:=az (aY (j:=1) (u:=.slice x3 (R.length+1) y3) hN6 ne1) 1;simp at n0 n1;have HF1:Hid (aN B (w6.setCell ⟨p,1,none⟩ (.slice x3 (R.length+1) y3)) 6 (.slice x1 L'.length y1) (L'.map Lf.cells)):=aG (ownsRow_setCell_other KZ6.out.2.1 (kG KZ6.out.2.1 hx6 (by decide)) _) (by simp) (jc L');have HF2:Hid (aN B (w6.setCell ⟨p,1,none⟩ (.slice x3 (R.length+1) y3)) 5 (.slice x3 (R.length+1) y3) ((R++[Rq.mk id 1 bk wt ans]).map Rq.cells)):=aG (n:=R.length+1) (ownsRow_setCell_other KZ6.out.2.2.1 (kG KZ6.out.2.2.1 hx6 (by decide)) _) (by simp) (nj _);exact Q13):p:=h
theorem Q64 {p:Prop} (h:p:=by
 clear hK K hown' hgrow;(try simp only [Act.put,List.setIfInBounds_toArray,List.set_cons_zero,List.set_cons_succ]);refine dl 9 ?_;refine Zt 11 ?_;refine Z1 12 (fun K hK=>?_);go_simp;refine Zk hK (hS:=by (obtain ⟨s0,s1,s2,s3,s4⟩:=hHeld;exact ⟨(aW (by omega)).trans s0,(aW (by omega)).trans s1,(aW (by omega)).trans s2,(aW (by omega)).trans s3,(aW (by omega)).trans s4⟩)) fun hHeld=>?_;clear hK K;refine Zd ?_;have hx6:=HRest.out.2.2.1;have KZ6:=KL (HRest.out.2.2);have z0:=ae (aR (j:=1) hx6 (.slice x3 (R.length+1) y3)) 0;have z1:=ae (aR (j:=1) hx6 (.slice x3 (R.length+1) y3)) 1;simp at z0 z1;obtain ⟨u0,u1,u2,u3,u4⟩:=hHeld;have lp6:p<w6.heap.size:=lt_of_block hx6;have ln6:w.heap.size+1+1<w6.heap.size:=by omega
 have hN6:=KZ6.out.2.2.2.1;have n0:=(aW (u:=.slice x3 (R.length+1) y3) (g:=p) (i:=1) ne1).trans (ae hN6 0);have n1:=(aW (u:=.slice x3 (R.length+1) y3) (g:=p) (i:=1) ne1).trans (ae hN6 1);have g0:=az (aY (j:=1) (u:=.slice x3 (R.length+1) y3) hN6 ne1) 0;have g1:=az (aY (j:=1) (u:=.slice x3 (R.length+1) y3) hN6 ne1) 1;simp at n0 n1;have HF1:Hid (aN B (w6.setCell ⟨p,1,none⟩ (.slice x3 (R.length+1) y3)) 6 (.slice x1 L'.length y1) (L'.map Lf.cells)):=aG (ownsRow_setCell_other KZ6.out.2.1 (kG KZ6.out.2.1 hx6 (by decide)) _) (by simp) (jc L');have HF2:Hid (aN B (w6.setCell ⟨p,1,none⟩ (.slice x3 (R.length+1) y3)) 5 (.slice x3 (R.length+1) y3) ((R++[Rq.mk id 2 bk 0 ans]).map Rq.cells)):=aG (n:=R.length+1) (ownsRow_setCell_other KZ6.out.2.2.1 (kG KZ6.out.2.2.1 hx6 (by decide)) _) (by simp) (nj _);exact Q13):p:=h
theorem Q72 {p:Prop} (h:p:=by
 obtain ⟨q1,q2|⟨gg,c2,cur,q3,q4,q5,q6⟩⟩:=KW.o2
 ·exact ⟨q1,.inl q2⟩
 ·refine ⟨q1,.inr ⟨gg,c2,cur,q3,q4,(hg.block gg (lt_of_block q5) ?_).trans q5,q6⟩⟩;intro e;exact KW.dis gg e.symm (by rw [q3];rfl)):p:=h
theorem Q76 {p:Prop} (h:p:=by
 go_wp2_with fail
 go_region
 all_goals go_wp2
 all_goals (refine LN (v:=.int .i64 0) ?_ rfl ⟨rfl,⟨_,KF.out.o.below ((KM _ _).drew)⟩,BF.out.drew⟩;simp [results,results112,go_sem, *])):p:=h
def oH (L:List Lf) (b:Int):Nat:=L.findIdx fun x=>!decide (x.backend<b)
theorem rt (L:List Lf) (b:Int):oH L b<=L.length:=List.findIdx_le_length
theorem plN_lt {L:List Lf} {b:Int} {j:Nat} (h:j<oH L b):(L.getD j Lf.zero).backend<b:=by
 have z:=Nat.lt_of_lt_of_le h (rt L b);have:=List.not_of_lt_findIdx h;simp [List.getD,z] at this ⊢;exact this
theorem plN_at {L:List Lf} {b:Int} (h:oH L b<L.length):¬ (L.getD (oH L b) Lf.zero).backend<b:=by
 have:=List.findIdx_getElem (w:=h);simp [List.getD,h] at this ⊢;exact this
theorem xR {α β:Type} (f:α->β) (X:List α) (i:Nat) (c:α):(eB X i c).map f=eB (X.map f) i (f c):=by simp [eB]
def lX (r:Rq):Lf:=⟨r.backend,1,r.weight,0,0,0⟩
def yX (L:List Lf) (r:Rq) (L':List Lf) (z:Int):Prop:=
 (¬ ((0<=r.backend/\r.backend<=11)/\(1<=r.weight/\r.weight<=8))/\L'=L/\z=2)\/
 (((0<=r.backend/\r.backend<=11)/\(1<=r.weight/\r.weight<=8))/\(∃ h:Nat,h<L.length/\aU (cM r.backend) L=h/\(L.getD h Lf.zero).state≠4)/\L'=L/\z=7)\/
 (((0<=r.backend/\r.backend<=11)/\(1<=r.weight/\r.weight<=8))/\(∃ h:Nat,h<L.length/\aU (cM r.backend) L=h/\(L.getD h Lf.zero).state=4/\L'=L.set h (lX r))/\z=0)\/
 (((0<=r.backend/\r.backend<=11)/\(1<=r.weight/\r.weight<=8))/\aU (cM r.backend) L=-1/\L'=eB L (oH L r.backend) (lX r)/\z=0)
def jt (x:Lf) (r:Rq) (now drain:Int):Lf:={ x with state:=if x.state=1 then 4 else 3,until_:=now+drain,request:=r.id }
def yT (L:List Lf) (r:Rq) (now drain:Int) (L':List Lf) (z:Int):Prop:=
 (aU (cM r.backend) L=-1/\L'=L/\z=8)\/
 ((∃ h:Nat,h<L.length/\aU (cM r.backend) L=h/\(L.getD h Lf.zero).state=4)/\L'=L/\z=8)\/
 ((∃ h:Nat,h<L.length/\aU (cM r.backend) L=h/\(L.getD h Lf.zero).state=3)/\L'=L/\z=12)\/
 (∃ h:Nat,h<L.length/\aU (cM r.backend) L=h/\((L.getD h Lf.zero).state≠4/\(L.getD h Lf.zero).state≠3)/\L'=L.set h (jt (L.getD h Lf.zero) r now drain)/\z=0)
structure BkO (B:Nat) (w:World) (p:Nat) (v1 v2:Value) (L:List Lf) (R:List Rq):Prop where
 hB:B<=p
 hh:w.heap[p]?=some (.cells #[v1,v2] 259 (0,0))
 o1:w.ownsRow B 173 6 v1 L.length (L.map Lf.cells).flatten
 o2:w.ownsRow B 176 5 v2 R.length (R.map Rq.cells).flatten
theorem BkAt.o {B:Nat} {w:World} {p:Nat} {v1 v2:Value} {L:List Lf} {R:List Rq} (h:BkAt B w p v1 v2 L R):BkO B w p v1 v2 L R:=⟨h.hB,h.hh,h.o1,h.o2⟩
theorem BkO.lt {B:Nat} {w:World} {p:Nat} {v1 v2:Value} {L:List Lf} {R:List Rq} (h:BkO B w p v1 v2 L R):p<w.heap.size:=lt_of_block h.hh
theorem BkO.below {B:Nat} {w w':World} {p:Nat} {v1 v2:Value} {L:List Lf} {R:List Rq} (h:BkO B w p v1 v2 L R) (z:Below w.heap.size w w'):BkO B w' p v1 v2 L R:=
 ⟨h.hB,aj z h.hh h.lt,bF h.o1 z,bF h.o2 z⟩
def iX (B:Nat) (w:World) (p:Nat) (v2:Value) (L':List Lf) (R:List Rq) (h:Int) (e:Ending) (w':World):Prop:=e=.returned (.int .i64 h)/\(∃ v1,BkO B w' p v1 v2 L' R)/\Below B w w'
theorem BkAt.six {B:Nat} {w:World} {p g cap:Nat} {v2:Value} {L:List Lf} {R:List Rq} {i:Nat} (h:BkAt B w p (.slice (some ⟨g,0,none⟩) L.length cap) v2 L R) (hi:i<L.length) (a b c d e f:Int) :
  BkAt B ((((((w.setCell ⟨g,i*6,none⟩ (.int .i64 a)).setCell ⟨g,i*6+1,none⟩ (.int .i64 b)).setCell ⟨g,i*6+2,none⟩ (.int .i64 c)).setCell ⟨g,i*6+3,none⟩ (.int .i64 d)).setCell ⟨g,i*6+4,none⟩ (.int .i64 e)).setCell ⟨g,i*6+5,none⟩ (.int .i64 f)) p (.slice (some ⟨g,0,none⟩) L.length cap) v2 (L.set i ⟨a,b,c,d,e,f⟩) R:=by
 obtain ⟨s,hs⟩:∃ s,s=L.getD i Lf.zero:=⟨_,rfl⟩
 obtain ⟨x0,x1,x2,x3,x4,x5⟩:=s
 have gd:∀ (M:List Lf) (y:Lf),M.length=L.length->(M.set i y).getD i Lf.zero=y:=fun M y hM=>by simp [List.getD,hM,hi]
 have k0:=BkAt.field (j:=0) (v:=.int .i64 a) (x:=⟨a,x1,x2,x3,x4,x5⟩) h hi (by omega) (by rw [<- hs];rfl)
 rw [Nat.add_zero] at k0
 have l0:(L.set i ⟨a,x1,x2,x3,x4,x5⟩).length=L.length:=Lq ..
 have k1:=BkAt.field (j:=1) (v:=.int .i64 b) (x:=⟨a,b,x2,x3,x4,x5⟩) (L:=L.set i ⟨a,x1,x2,x3,x4,x5⟩) (by rw [l0];exact k0) (by rw [l0];exact hi) (by omega) (by rw [gd _ _ rfl];rfl)
 rw [List.set_set,l0] at k1
 have k2:=BkAt.field (j:=2) (v:=.int .i64 c) (x:=⟨a,b,c,x3,x4,x5⟩) (L:=L.set i ⟨a,b,x2,x3,x4,x5⟩) (by rw [Lq];exact k1) (by rw [Lq];exact hi) (by omega) (by rw [gd _ _ rfl];rfl)
 rw [List.set_set,Lq] at k2
 have k3:=BkAt.field (j:=3) (v:=.int .i64 d) (x:=⟨a,b,c,d,x4,x5⟩) (L:=L.set i ⟨a,b,c,x3,x4,x5⟩) (by rw [Lq];exact k2) (by rw [Lq];exact hi) (by omega) (by rw [gd _ _ rfl];rfl)
 rw [List.set_set,Lq] at k3
 have k4:=BkAt.field (j:=4) (v:=.int .i64 e) (x:=⟨a,b,c,d,e,x5⟩) (L:=L.set i ⟨a,b,c,d,x4,x5⟩) (by rw [Lq];exact k3) (by rw [Lq];exact hi) (by omega) (by rw [gd _ _ rfl];rfl)
 rw [List.set_set,Lq] at k4
 have k5:=BkAt.field (j:=5) (v:=.int .i64 f) (x:=⟨a,b,c,d,e,f⟩) (L:=L.set i ⟨a,b,c,d,e,x5⟩) (by rw [Lq];exact k4) (by rw [Lq];exact hi) (by omega) (by rw [gd _ _ rfl];rfl)
 rw [List.set_set,Lq] at k5
 exact k5
theorem sL (B p:Nat) (v1 v2:Value) (L:List Lf) (R:List Rq) (id kd z E I:Int) (w:World) (h:BkAt B w p v1 v2 L R) (Z:¬ ((0<=z/\z<=11)/\(1<=E/\E<=8))) :
  Calls prog 111 #[.pointer (some ⟨p,0,none⟩),.agg #[.int .i64 id,.int .i64 kd,.int .i64 z,.int .i64 E,.int .i64 I]] w (iX B w p v2 L R 2):=by
 have H:=KL h
 have lp:=h.lt
 have hB:=h.hB
 clear h
 rcases (show z<0\/(0<=z/\12<=z)\/(0<=z/\z<=11/\E<1)\/(0<=z/\z<=11/\1<=E/\8<E) by omega) with J|⟨J,K⟩|⟨J,K,Y⟩|⟨J,K,Y,h3⟩
 all_goals
  clear Z
  have W:=KL (H.out.below (((KM w.heap.size w).alloc (KY _) (.cells #[.int .i64 id,.int .i64 kd,.int .i64 z,.int .i64 E,.int .i64 I] 176))))
  have U:Below B w (w.alloc (.cells #[.int .i64 id,.int .i64 kd,.int .i64 z,.int .i64 E,.int .i64 I] 176)):=(KM B w).alloc (by omega) _
  go_in
  go_wp2
  all_goals first|(go_ret;exact ⟨rfl,⟨_,W.out.o⟩,U⟩)|exact Zx
theorem pO (B p:Nat) (v1 v2:Value) (L:List Lf) (R:List Rq) (id kd z E K:Int) (i:Nat) (w:World) (h:BkAt B w p v1 v2 L R) (a1:L.length<=12) (hr:(0<=z/\z<=11)/\(1<=E/\E<=8)) (hi:i<L.length) (he:aU (cM z) L=i) (J:(L.getD i Lf.zero).state≠4) :
  Calls prog 111 #[.pointer (some ⟨p,0,none⟩),.agg #[.int .i64 id,.int .i64 kd,.int .i64 z,.int .i64 E,.int .i64 K]] w (iX B w p v2 L R 7):=by
 have H:=KL h;have lp:=h.lt;have hB:=h.hB;have Y:=KL (h.below (((KM w.heap.size w).alloc (KY _) (.cells #[.int .i64 id,.int .i64 kd,.int .i64 z,.int .i64 E,.int .i64 K] 176)).alloc (by simp) (.cells #[.int .i64 z,.int .i64 1,.int .i64 E,.int .i64 0,.int .i64 0,.int .i64 0] 173)));have B0:=KL (((KM B w).alloc (by omega) (.cells #[.int .i64 id,.int .i64 kd,.int .i64 z,.int .i64 E,.int .i64 K] 176)).alloc (by simp;omega) (.cells #[.int .i64 z,.int .i64 1,.int .i64 E,.int .i64 0,.int .i64 0,.int .i64 0] 173))
 obtain ⟨g,a0,rfl,a3,a4⟩:=h.addr hi
 have HV:Hid (kg (.slice (some ⟨g,0,none⟩) L.length a0) (aU (cM z) L)=.pointer (some ⟨g,i*6,none⟩)):=by show kg _ _=_;rw [he];simp [kg]
 obtain ⟨W,U⟩:∃ W,W=L.getD i Lf.zero:=⟨_,rfl⟩
 rw [<- U] at J
 have HS:=KL U
 obtain ⟨c0,c1,c2,c3,c4,c5⟩:=W
 simp only at J
 have e1:(c1 != 4)=true:=by simpa using J
 obtain ⟨⟨r0,r1⟩,r2,r3⟩:=hr
 clear h J U he
 go_in
 go_wp2_with fail
 refine (dS B p _ v2 L R z _ Y.out a1).mono ?_
 rintro e w2 ⟨rfl,I⟩
 rw [HV.out]
 have a2:=I.size
 simp at a2
 have Z:=KL (Y.out.below I)
 have B2:=KL (B0.out.trans (I.mono (by simp;omega)))
 have q1:=(Z.out.cell hi (j:=1) (by omega)).1
 rw [<- HS.out] at q1
 simp [Lf.cells] at q1
 clear I
 go_wp2
 all_goals first|(go_ret;exact ⟨rfl,⟨_,Z.out.o⟩,B2.out⟩)|exact Zx
theorem sJ (B p:Nat) (v1 v2:Value) (L:List Lf) (R:List Rq) (id kd z J Z:Int) (i:Nat) (w:World) (h:BkAt B w p v1 v2 L R) (a2:L.length<=12) (hr:(0<=z/\z<=11)/\(1<=J/\J<=8)) (E:i<L.length) (he:aU (cM z) L=i) (hs:(L.getD i Lf.zero).state=4) :
  Calls prog 111 #[.pointer (some ⟨p,0,none⟩),.agg #[.int .i64 id,.int .i64 kd,.int .i64 z,.int .i64 J,.int .i64 Z]] w (iX B w p v2 (L.set i ⟨z,1,J,0,0,0⟩) R 0):=by
 have H:=KL h;have lp:=h.lt;have hB:=h.hB;have K0:=KL (h.below (((KM w.heap.size w).alloc (KY _) (.cells #[.int .i64 id,.int .i64 kd,.int .i64 z,.int .i64 J,.int .i64 Z] 176)).alloc (by simp) (.cells #[.int .i64 z,.int .i64 1,.int .i64 J,.int .i64 0,.int .i64 0,.int .i64 0] 173)));have B0:=KL (((KM B w).alloc (by omega) (.cells #[.int .i64 id,.int .i64 kd,.int .i64 z,.int .i64 J,.int .i64 Z] 176)).alloc (by simp;omega) (.cells #[.int .i64 z,.int .i64 1,.int .i64 J,.int .i64 0,.int .i64 0,.int .i64 0] 173))
 obtain ⟨K,a1,rfl,W,a4⟩:=h.addr E
 have HV:Hid (kg (.slice (some ⟨K,0,none⟩) L.length a1) (aU (cM z) L)=.pointer (some ⟨K,i*6,none⟩)):=by show kg _ _=_;rw [he];simp [kg]
 obtain ⟨s,a0⟩:∃ s,s=L.getD i Lf.zero:=⟨_,rfl⟩
 rw [<- a0] at hs
 have HS:=KL a0
 obtain ⟨c0,c1,c2,c3,c4,c5⟩:=s
 simp only at hs
 subst hs
 obtain ⟨⟨r0,r1⟩,r2,r3⟩:=hr
 clear h a0 he
 go_in
 go_wp2_with fail
 refine (dS B p _ v2 L R z _ K0.out a2).mono ?_
 rintro e w2 ⟨rfl,Y⟩
 rw [HV.out]
 have a3:=Y.size
 simp at a3
 have I:=KL (K0.out.below Y)
 have B2:=KL (B0.out.trans (Y.mono (by simp;omega)))
 have U:=aj Y (aB (w:=w.alloc (.cells #[.int .i64 id,.int .i64 kd,.int .i64 z,.int .i64 J,.int .i64 Z] 176)) (k:=w.heap.size+1) (.cells #[.int .i64 z,.int .i64 1,.int .i64 J,.int .i64 0,.int .i64 0,.int .i64 0] 173) (by simp)) (by simp)
 have d0:=ae U 0
 have d1:=ae U 1
 have d2:=ae U 2
 have d3:=ae U 3
 have d4:=ae U 4
 have d5:=ae U 5
 simp at d0 d1 d2 d3 d4 d5
 have q0:=(I.out.cell E (j:=0) (by omega)).1
 have q1:=(I.out.cell E (j:=1) (by omega)).1
 have q2:=(I.out.cell E (j:=2) (by omega)).1
 have q3:=(I.out.cell E (j:=3) (by omega)).1
 have q4:=(I.out.cell E (j:=4) (by omega)).1
 have q5:=(I.out.cell E (j:=5) (by omega)).1
 have f0:=(I.out.cell E (j:=0) (by omega)).2
 have f1:=(I.out.cell E (j:=1) (by omega)).2
 have f2:=(I.out.cell E (j:=2) (by omega)).2
 have f3:=(I.out.cell E (j:=3) (by omega)).2
 have f4:=(I.out.cell E (j:=4) (by omega)).2
 have f5:=(I.out.cell E (j:=5) (by omega)).2
 rw [<- HS.out] at q0 q1 q2 q3 q4 q5
 simp [Lf.cells] at q0 q1 q2 q3 q4 q5 f0
 have lg:K<w2.heap.size:=bV q0
 have ng:K<w.heap.size:=by omega
 have K6:=KL (I.out.six E z 1 J 0 0 0)
 have B6:=KL ((((((B2.out.setCell (p:=⟨K,i*6,none⟩) W (.int .i64 z)).setCell (p:=⟨K,i*6+1,none⟩) W (.int .i64 1)).setCell (p:=⟨K,i*6+2,none⟩) W (.int .i64 J)).setCell (p:=⟨K,i*6+3,none⟩) W (.int .i64 0)).setCell (p:=⟨K,i*6+4,none⟩) W (.int .i64 0)).setCell (p:=⟨K,i*6+5,none⟩) W (.int .i64 0))
 clear Y U
 go_wp2
 all_goals first|(go_ret;exact ⟨rfl,⟨_,K6.out.o⟩,B6.out⟩)|exact Zx
theorem kG {w:World} {B e sz n p:Nat} {v:Value} {xs:List Value} {cs:Array Value} {T:TypeId} {fr:Nat×Nat} (z:w.ownsRow B e sz v n xs) (h:w.heap[p]?=some (.cells cs T fr)) (E:e≠T):v.ownBlock≠some p:=by
 obtain ⟨_,⟨rfl,_⟩|⟨U,J,K,rfl,_,I,_⟩⟩:=z
 ·intro e
  cases e
 ·intro e;simp only [Value.ownBlock,Option.some.injEq] at e;subst e;rw [I] at h;simp only [Option.some.injEq,Obj.cells.injEq] at h;exact E h.2.1
theorem Bh (L:List Lf):∀ u∈(L.map Lf.cells).flatten,u.oneCell'=true:=by
 exact Q96
theorem sK (B p:Nat) (v1 v2:Value) (L:List Lf) (R:List Rq) (id kd bk wt Z:Int) (w:World) (h:BkAt B w p v1 v2 L R) (ac:L.length<=12) (hr:(0<=bk/\bk<=11)/\(1<=wt/\wt<=8)) (he:aU (cM bk) L=-1) :
  Calls prog 111 #[.pointer (some ⟨p,0,none⟩),.agg #[.int .i64 id,.int .i64 kd,.int .i64 bk,.int .i64 wt,.int .i64 Z]] w (iX B w p v2 (eB L (oH L bk) ⟨bk,1,wt,0,0,0⟩) R 0):=by
 have H:=KL h;have lp:=h.lt;have hB:=h.hB;have K0:=KL (h.below (((KM w.heap.size w).alloc (KY _) (.cells #[.int .i64 id,.int .i64 kd,.int .i64 bk,.int .i64 wt,.int .i64 Z] 176)).alloc (by simp) (.cells #[.int .i64 bk,.int .i64 1,.int .i64 wt,.int .i64 0,.int .i64 0,.int .i64 0] 173)));have B0:=KL (((KM B w).alloc (by omega) (.cells #[.int .i64 id,.int .i64 kd,.int .i64 bk,.int .i64 wt,.int .i64 Z] 176)).alloc (by simp;omega) (.cells #[.int .i64 bk,.int .i64 1,.int .i64 wt,.int .i64 0,.int .i64 0,.int .i64 0] 173))
 obtain ⟨a,z,rfl,_,_⟩:=aE h.o1
 have HV:Hid (kg (.slice a L.length z) (aU (cM bk) L)=.pointer none):=by show kg _ _=_;rw [he];cases a<;>simp [kg]
 obtain ⟨⟨r0,r1⟩,r2,r3⟩:=hr
 have au:(L.length:Int)<=12:=by omega
 clear h he
 go_in
 go_wp2_with fail
 refine (dS B p _ v2 L R bk _ K0.out ac).mono ?_
 rintro e w2 ⟨rfl,hb2⟩
 rw [HV.out]
 have al:=hb2.size
 simp at al
 have K2:=KL (K0.out.below hb2)
 have B2:=KL (B0.out.trans (hb2.mono (by simp;omega)))
 have xx:=KL (aj hb2 (aB (w:=w.alloc (.cells #[.int .i64 id,.int .i64 kd,.int .i64 bk,.int .i64 wt,.int .i64 Z] 176)) (k:=w.heap.size+1) (.cells #[.int .i64 bk,.int .i64 1,.int .i64 wt,.int .i64 0,.int .i64 0,.int .i64 0] 173) (by simp)) (by simp))
 have xr:=KL (aj hb2 ((KQ (w:=World.alloc w _) (.cells #[.int .i64 bk,.int .i64 1,.int .i64 wt,.int .i64 0,.int .i64 0,.int .i64 0] 173) w.heap.size (by simp)).trans (aB (w:=w) (.cells #[.int .i64 id,.int .i64 kd,.int .i64 bk,.int .i64 wt,.int .i64 Z] 176) rfl)) (by simp;omega))
 clear hb2
 go_wp2_with fail
 go_loopw [7] (fun i wr=>∃ k:Nat,k<=oH L bk/\i=.int .i64 k/\Below w2.heap.size w2 wr) (fun i _=>L.length - (intOf i).toNat)
 case atStart=>exact ⟨0,La _,rfl,KM _ _⟩
 case round=>
  obtain ⟨k,hk,rfl,J⟩:=hrel;have ab:=KL J;have I:=KL (K2.out.below J);have BR:=KL (B2.out.trans (J.mono (by have:=K2.out.lt;omega)));have sR:=J.size;have c0:=ae I.out.hh 0;have f0:=az I.out.hh 0;have aa:=I.out.lt;simp at c0;have a9:=aj J xr.out (by omega);have U:=aj J xx.out (by omega);have d2:=ae a9 2;have x0:=ae U 0;have x1:=ae U 1;have x2:=ae U 2;have x3:=ae U 3;have x4:=ae U 4;have x5:=ae U 5;simp at d2 x0 x1 x2 x3 x4 x5;have aw:=rt L bk;clear J a9 U;rcases (show k<L.length\/L.length=k by omega) with a8|ad
  ·have av:(k:Int)<(L.length:Int):=by omega
   obtain ⟨E,cap',a7,ao,ar⟩:=I.out.addr a8;simp only [Value.slice.injEq] at a7;obtain ⟨rfl,_,rfl⟩:=a7;have q0:=(I.out.cell a8 (j:=0) (by omega)).1;obtain ⟨s,hs⟩:∃ s,s=L.getD k Lf.zero:=⟨_,rfl⟩;rw [<- hs] at q0;have a5:=KL hs;obtain ⟨y0,y1,y2,y3,y4,y5⟩:=s;simp [Lf.cells] at q0;clear hs;by_cases hy:y0<bk
   ·have a0:k+1<=oH L bk:=by
     rcases Nat.lt_or_ge k (oH L bk) with h|h
     ·exact h
     ·have e:oH L bk=k:=by omega
      have:=plN_at (L:=L) (b:=bk) (by omega);rw [e,<- a5.out] at this;exact absurd hy this
    go_wp2_with fail;go_quiet (fail);go_wp2;go_roundw
    case rel=>exact ⟨k+1,a0,by go_num,aM ab.out⟩
    case measure=>simp [intOf];omega
   ·have a0:k=oH L bk:=by
     rcases Nat.lt_or_ge k (oH L bk) with h|h
     ·have:=plN_lt (L:=L) (b:=bk) h;rw [<- a5.out] at this;exact absurd this hy
     ·omega
    have ax:decide (y0<bk)=false:=by simpa using hy
    have a1:=KL a0;clear a0;go_wp2_with fail;go_quiet (fail);have Y:BkAt B (wr.drewN nq) p (.slice (some ⟨E,0,none⟩) L.length z) v2 L R:=I.out.below (aM (KM _ _));have W:Below B w (wr.drewN nq):=aM BR.out;have a3:(wr.drewN nq).cell? ⟨p,0,none⟩=some (.slice (some ⟨E,0,none⟩) L.length z):=c0;have a4:(wr.drewN nq).frozen? ⟨p,0,none⟩=false:=f0;have zx0:(wr.drewN nq).cell? ⟨w.heap.size+1,0,none⟩=some (.int .i64 bk):=x0;have zx1:(wr.drewN nq).cell? ⟨w.heap.size+1,1,none⟩=some (.int .i64 1):=x1;have zx2:(wr.drewN nq).cell? ⟨w.heap.size+1,2,none⟩=some (.int .i64 wt):=x2;have zx3:(wr.drewN nq).cell? ⟨w.heap.size+1,3,none⟩=some (.int .i64 0):=x3;have zx4:(wr.drewN nq).cell? ⟨w.heap.size+1,4,none⟩=some (.int .i64 0):=x4;have zx5:(wr.drewN nq).cell? ⟨w.heap.size+1,5,none⟩=some (.int .i64 0):=x5;have zl:p<(wr.drewN nq).heap.size:=aa
    have zs:w.heap.size+1<(wr.drewN nq).heap.size:=by show _<wr.heap.size;omega
    have KZ:=KL Y;have BZ:=KL W;clear Y W c0 f0 x0 x1 x2 x3 x4 x5 d2 q0;go_wp2_with fail;generalize wr.drewN nq=wz at KZ BZ a3 a4 zx0 zx1 zx2 zx3 zx4 zx5 zl zs ⊢;have hk:k=oH L bk:=a1.out
    have HIns:Hid (Calls prog 147 #[.slice (some ⟨E,0,none⟩) L.length z,.int .i64 (k:Int),.slice (some ⟨wz.heap.size,0,none⟩) 1 1] (wz.alloc (.cells #[.int .i64 bk,.int .i64 1,.int .i64 wt,.int .i64 0,.int .i64 0,.int .i64 0] 173)).drew fun e w5=>∃ (a':Option Addr) (cap':Nat),e=.returned (.slice a' (L.length+1) cap')/\w5.cell? ⟨p,0,none⟩=some (.slice (some ⟨E,0,none⟩) L.length z)/\w5.frozen? ⟨p,0,none⟩=false/\(w5.cell? ⟨w.heap.size+1,0,none⟩=some (.int .i64 bk)/\w5.cell? ⟨w.heap.size+1,1,none⟩=some (.int .i64 1)/\w5.cell? ⟨w.heap.size+1,2,none⟩=some (.int .i64 wt)/\w5.cell? ⟨w.heap.size+1,3,none⟩=some (.int .i64 0)/\w5.cell? ⟨w.heap.size+1,4,none⟩=some (.int .i64 0)/\w5.cell? ⟨w.heap.size+1,5,none⟩=some (.int .i64 0))/\Hid (w5.heap[p]?=some (.cells #[.slice (some ⟨E,0,none⟩) L.length z,v2] 259 (0,0))/\w5.ownsRow B 173 6 (.slice a' (L.length+1) cap') (L.length+1) ((eB L (oH L bk) ⟨bk,1,wt,0,0,0⟩).map Lf.cells).flatten/\w5.ownsRow B 176 5 v2 R.length (R.map Rq.cells).flatten/\Below B w w5)):=by
     have KW:BkAt B (wz.alloc (.cells #[.int .i64 bk,.int .i64 1,.int .i64 wt,.int .i64 0,.int .i64 0,.int .i64 0] 173)).drew p (.slice (some ⟨E,0,none⟩) L.length z) v2 L R:=KZ.out.below (((KM wz.heap.size wz).alloc (KY _) _).drew);have am:=KZ.out.lt
     have a2:k<=L.length:=by rw [hk];exact rt L bk
     have:=Kr B (.slice (some ⟨E,0,none⟩) L.length z) (L.map Lf.cells) k wz.heap.size (Lf.cells ⟨bk,1,wt,0,0,0⟩) (wz.alloc (.cells #[.int .i64 bk,.int .i64 1,.int .i64 wt,.int .i64 0,.int .i64 0,.int .i64 0] 173)).drew (by rw [Lh];exact KW.o1) (jc L) (Bh L) rfl (by intro u hu;simp [Lf.cells] at hu;rcases hu with rfl|rfl|rfl|rfl<;>rfl) (by rw [Lh];exact a2) (by rw [Lh];omega) (aB (w:=wz) _ rfl) (fun e=>by have:=(KZ.out.o1.lt _ e).2;omega) (by have:=KZ.out.hB;show B<=_;simp;omega);refine this.mono ?_;rintro e w5 ⟨v',rfl,ho,hg⟩;rw [Lh] at ho;obtain ⟨a',cap',rfl,_,_⟩:=aE ho
     have np:some p≠(Value.slice (some ⟨E,0,none⟩) L.length z).ownBlock:=fun e=>by have:=KZ.out.l1 p e.symm;omega
     have h5:w5.heap[p]?=some (.cells #[.slice (some ⟨E,0,none⟩) L.length z,v2] 259 (0,0)):=(hg.block p (by simp;omega) np).trans KW.hh;refine ⟨a',cap',rfl,by rw [ae h5];rfl,az h5 0,?_,h5,by rw [xR,<- hk];exact ho,?_,?_⟩
     ·have nx:some (w.heap.size+1)≠(Value.slice (some ⟨E,0,none⟩) L.length z).ownBlock:=fun e=>by have:=KZ.out.l1 _ e.symm;omega
      exact Q37
     ·exact Q72
     ·exact Q55
    exact Q10
  ·have af:¬ (k:Int)<(L.length:Int):=by omega
   have a1:Hid (k=oH L bk):=by show k=_;omega
   have a6:¬ k<L.length:=by omega
   have ak:L.length<=k:=by omega
   have ag:decide ((k:Int)<(L.length:Int))=false:=by simpa using a6
   clear ad;go_wp2_with fail;go_quiet (fail);have Y:BkAt B (wr.drewN nq) p (.slice a L.length z) v2 L R:=I.out.below (aM (KM _ _));have W:Below B w (wr.drewN nq):=aM BR.out;have a3:(wr.drewN nq).cell? ⟨p,0,none⟩=some (.slice a L.length z):=c0;have a4:(wr.drewN nq).frozen? ⟨p,0,none⟩=false:=f0;have zx0:(wr.drewN nq).cell? ⟨w.heap.size+1,0,none⟩=some (.int .i64 bk):=x0;have zx1:(wr.drewN nq).cell? ⟨w.heap.size+1,1,none⟩=some (.int .i64 1):=x1;have zx2:(wr.drewN nq).cell? ⟨w.heap.size+1,2,none⟩=some (.int .i64 wt):=x2;have zx3:(wr.drewN nq).cell? ⟨w.heap.size+1,3,none⟩=some (.int .i64 0):=x3;have zx4:(wr.drewN nq).cell? ⟨w.heap.size+1,4,none⟩=some (.int .i64 0):=x4;have zx5:(wr.drewN nq).cell? ⟨w.heap.size+1,5,none⟩=some (.int .i64 0):=x5;have zl:p<(wr.drewN nq).heap.size:=aa
   have zs:w.heap.size+1<(wr.drewN nq).heap.size:=by show _<wr.heap.size;omega
   have KZ:=KL Y;have BZ:=KL W;clear Y W c0 f0 x0 x1 x2 x3 x4 x5 d2 af a6 ak ag;go_wp2_with fail;generalize wr.drewN nq=wz at KZ BZ a3 a4 zx0 zx1 zx2 zx3 zx4 zx5 zl zs ⊢;have hk:k=oH L bk:=a1.out
   have HIns:Hid (Calls prog 147 #[.slice a L.length z,.int .i64 (k:Int),.slice (some ⟨wz.heap.size,0,none⟩) 1 1] (wz.alloc (.cells #[.int .i64 bk,.int .i64 1,.int .i64 wt,.int .i64 0,.int .i64 0,.int .i64 0] 173)).drew fun e w5=>∃ (a':Option Addr) (cap':Nat),e=.returned (.slice a' (L.length+1) cap')/\w5.cell? ⟨p,0,none⟩=some (.slice a L.length z)/\w5.frozen? ⟨p,0,none⟩=false/\(w5.cell? ⟨w.heap.size+1,0,none⟩=some (.int .i64 bk)/\w5.cell? ⟨w.heap.size+1,1,none⟩=some (.int .i64 1)/\w5.cell? ⟨w.heap.size+1,2,none⟩=some (.int .i64 wt)/\w5.cell? ⟨w.heap.size+1,3,none⟩=some (.int .i64 0)/\w5.cell? ⟨w.heap.size+1,4,none⟩=some (.int .i64 0)/\w5.cell? ⟨w.heap.size+1,5,none⟩=some (.int .i64 0))/\Hid (w5.heap[p]?=some (.cells #[.slice a L.length z,v2] 259 (0,0))/\w5.ownsRow B 173 6 (.slice a' (L.length+1) cap') (L.length+1) ((eB L (oH L bk) ⟨bk,1,wt,0,0,0⟩).map Lf.cells).flatten/\w5.ownsRow B 176 5 v2 R.length (R.map Rq.cells).flatten/\Below B w w5)):=by
    have KW:BkAt B (wz.alloc (.cells #[.int .i64 bk,.int .i64 1,.int .i64 wt,.int .i64 0,.int .i64 0,.int .i64 0] 173)).drew p (.slice a L.length z) v2 L R:=KZ.out.below (((KM wz.heap.size wz).alloc (KY _) _).drew);have am:=KZ.out.lt
    have a2:k<=L.length:=by rw [hk];exact rt L bk
    have:=Kr B (.slice a L.length z) (L.map Lf.cells) k wz.heap.size (Lf.cells ⟨bk,1,wt,0,0,0⟩) (wz.alloc (.cells #[.int .i64 bk,.int .i64 1,.int .i64 wt,.int .i64 0,.int .i64 0,.int .i64 0] 173)).drew (by rw [Lh];exact KW.o1) (jc L) (Bh L) rfl (by intro u hu;simp [Lf.cells] at hu;rcases hu with rfl|rfl|rfl|rfl<;>rfl) (by rw [Lh];exact a2) (by rw [Lh];omega) (aB (w:=wz) _ rfl) (fun e=>by have:=(KZ.out.o1.lt _ e).2;omega) (by have:=KZ.out.hB;show B<=_;simp;omega);refine this.mono ?_;rintro e w5 ⟨v',rfl,ho,hg⟩;rw [Lh] at ho;obtain ⟨a',cap',rfl,_,_⟩:=aE ho
    have np:some p≠(Value.slice a L.length z).ownBlock:=fun e=>by have:=KZ.out.l1 p e.symm;omega
    have h5:w5.heap[p]?=some (.cells #[.slice a L.length z,v2] 259 (0,0)):=(hg.block p (by simp;omega) np).trans KW.hh;refine ⟨a',cap',rfl,by rw [ae h5];rfl,az h5 0,?_,h5,by rw [xR,<- hk];exact ho,?_,?_⟩
    ·have nx:some (w.heap.size+1)≠(Value.slice a L.length z).ownBlock:=fun e=>by have:=KZ.out.l1 _ e.symm;omega
     exact Q37
    ·exact Q72
    ·exact Q55
   exact Q10
theorem sI (B p:Nat) (v1 v2:Value) (L:List Lf) (R:List Rq) (id kd z J E now drain:Int) (w:World) (h:BkAt B w p v1 v2 L R) (a1:L.length<=12) (W:aU (cM z) L=-1) :
  Calls prog 112 #[.pointer (some ⟨p,0,none⟩),.agg #[.int .i64 id,.int .i64 kd,.int .i64 z,.int .i64 J,.int .i64 E],.int .i64 now,.int .i64 drain] w (iX B w p v2 L R 8):=by
 have H:=KL h;have lp:=h.lt;have hB:=h.hB;have K:=KL (h.below ((KM w.heap.size w).alloc (KY _) (.cells #[.int .i64 id,.int .i64 kd,.int .i64 z,.int .i64 J,.int .i64 E] 176)));have Y:=KL ((KM B w).alloc (by omega) (.cells #[.int .i64 id,.int .i64 kd,.int .i64 z,.int .i64 J,.int .i64 E] 176))
 obtain ⟨U,a0,rfl,_,_⟩:=aE h.o1
 have HV:Hid (kg (.slice U L.length a0) (aU (cM z) L)=.pointer none):=by show kg _ _=_;rw [W];cases U<;>simp [kg]
 clear h W
 go_in
 go_wp2_with fail
 refine (dS B p _ v2 L R z _ K.out a1).mono ?_
 rintro e w2 ⟨rfl,I⟩
 rw [HV.out]
 have K2:=KL (K.out.below I)
 have Z:=KL (Y.out.trans (I.mono (by simp;omega)))
 clear I
 go_wp2
 all_goals first|(go_ret;exact ⟨rfl,⟨_,K2.out.o⟩,Z.out⟩)|exact Zx
theorem pf (B p:Nat) (v1 v2:Value) (L:List Lf) (R:List Rq) (id kd z Y I now drain:Int) (i:Nat) (J:Int) (w:World) (h:BkAt B w p v1 v2 L R) (a1:L.length<=12) (hi:i<L.length) (he:aU (cM z) L=i) (K:((L.getD i Lf.zero).state=4/\J=8)\/((L.getD i Lf.zero).state=3/\J=12)) :
  Calls prog 112 #[.pointer (some ⟨p,0,none⟩),.agg #[.int .i64 id,.int .i64 kd,.int .i64 z,.int .i64 Y,.int .i64 I],.int .i64 now,.int .i64 drain] w (iX B w p v2 L R J):=by
 have H:=KL h;have lp:=h.lt;have hB:=h.hB;have Z:=KL (h.below ((KM w.heap.size w).alloc (KY _) (.cells #[.int .i64 id,.int .i64 kd,.int .i64 z,.int .i64 Y,.int .i64 I] 176)));have B0:=KL ((KM B w).alloc (by omega) (.cells #[.int .i64 id,.int .i64 kd,.int .i64 z,.int .i64 Y,.int .i64 I] 176))
 obtain ⟨g,a0,rfl,a3,a4⟩:=h.addr hi
 have HV:Hid (kg (.slice (some ⟨g,0,none⟩) L.length a0) (aU (cM z) L)=.pointer (some ⟨g,i*6,none⟩)):=by show kg _ _=_;rw [he];simp [kg]
 obtain ⟨W,U⟩:∃ W,W=L.getD i Lf.zero:=⟨_,rfl⟩
 rw [<- U] at K
 have HS:=KL U
 obtain ⟨c0,c1,c2,c3,c4,c5⟩:=W
 simp only at K
 clear h U he
 rcases K with ⟨rfl,rfl⟩|⟨rfl,rfl⟩
 all_goals
  go_in
  go_wp2_with fail
  refine (dS B p _ v2 L R z _ Z.out a1).mono ?_
  rintro e w2 ⟨rfl,E⟩
  rw [HV.out]
  have a2:=E.size
  simp at a2
  have K2:=KL (Z.out.below E)
  have B2:=KL (B0.out.trans (E.mono (by simp;omega)))
  have q1:=(K2.out.cell hi (j:=1) (by omega)).1
  rw [<- HS.out] at q1
  simp [Lf.cells] at q1
  clear E
  go_wp2
  all_goals first|(go_ret;exact ⟨rfl,⟨_,K2.out.o⟩,B2.out⟩)|exact Zx
theorem BkAt.three {B:Nat} {w:World} {p g cap:Nat} {v2:Value} {L:List Lf} {R:List Rq} {i:Nat} (h:BkAt B w p (.slice (some ⟨g,0,none⟩) L.length cap) v2 L R) (hi:i<L.length) (b e f:Int) :
  BkAt B (((w.setCell ⟨g,i*6+1,none⟩ (.int .i64 b)).setCell ⟨g,i*6+4,none⟩ (.int .i64 e)).setCell ⟨g,i*6+5,none⟩ (.int .i64 f)) p (.slice (some ⟨g,0,none⟩) L.length cap) v2 (L.set i { L.getD i Lf.zero with state:=b,until_:=e,request:=f }) R:=by
 obtain ⟨s,hs⟩:∃ s,s=L.getD i Lf.zero:=⟨_,rfl⟩
 rw [<- hs]
 obtain ⟨x0,x1,x2,x3,x4,x5⟩:=s
 have gd:∀ (M:List Lf) (y:Lf),M.length=L.length->(M.set i y).getD i Lf.zero=y:=fun M y hM=>by simp [List.getD,hM,hi]
 have k1:=BkAt.field (j:=1) (v:=.int .i64 b) (x:=⟨x0,b,x2,x3,x4,x5⟩) h hi (by omega) (by rw [<- hs];rfl)
 have k4:=BkAt.field (j:=4) (v:=.int .i64 e) (x:=⟨x0,b,x2,x3,e,x5⟩) (L:=L.set i ⟨x0,b,x2,x3,x4,x5⟩) (by rw [Lq];exact k1) (by rw [Lq];exact hi) (by omega) (by rw [gd _ _ rfl];rfl)
 rw [List.set_set,Lq] at k4
 have k5:=BkAt.field (j:=5) (v:=.int .i64 f) (x:=⟨x0,b,x2,x3,e,f⟩) (L:=L.set i ⟨x0,b,x2,x3,e,x5⟩) (by rw [Lq];exact k4) (by rw [Lq];exact hi) (by omega) (by rw [gd _ _ rfl];rfl)
 rw [List.set_set,Lq] at k5
 exact k5
theorem uJ (B p:Nat) (v1 v2:Value) (L:List Lf) (R:List Rq) (id kd I U K now drain:Int) (i:Nat) (w:World) (h:BkAt B w p v1 v2 L R) (a4:L.length<=12) (a6:(0<=now/\now<=1099511627776)/\(0<=drain/\drain<=500)) (E:i<L.length) (he:aU (cM I) L=i) (hs:(L.getD i Lf.zero).state≠4/\(L.getD i Lf.zero).state≠3) :
  Calls prog 112 #[.pointer (some ⟨p,0,none⟩),.agg #[.int .i64 id,.int .i64 kd,.int .i64 I,.int .i64 U,.int .i64 K],.int .i64 now,.int .i64 drain] w (iX B w p v2 (L.set i (jt (L.getD i Lf.zero) ⟨id,kd,I,U,K⟩ now drain)) R 0):=by
 have H:=KL h;have lp:=h.lt;have hB:=h.hB;have K0:=KL (h.below ((KM w.heap.size w).alloc (KY _) (.cells #[.int .i64 id,.int .i64 kd,.int .i64 I,.int .i64 U,.int .i64 K] 176)));have B0:=KL ((KM B w).alloc (by omega) (.cells #[.int .i64 id,.int .i64 kd,.int .i64 I,.int .i64 U,.int .i64 K] 176))
 obtain ⟨g,a2,rfl,Z,a9⟩:=h.addr E
 have HV:Hid (kg (.slice (some ⟨g,0,none⟩) L.length a2) (aU (cM I) L)=.pointer (some ⟨g,i*6,none⟩)):=by show kg _ _=_;rw [he];simp [kg]
 have a1:Hid (∀ (w':World) (b:Int),b=(if (L.getD i Lf.zero).state=1 then 4 else 3)->BkAt B w' p (.slice (some ⟨g,0,none⟩) L.length a2) v2 L R->BkAt B (((w'.setCell ⟨g,i*6+1,none⟩ (.int .i64 b)).setCell ⟨g,i*6+4,none⟩ (.int .i64 (now+drain))).setCell ⟨g,i*6+5,none⟩ (.int .i64 id)) p (.slice (some ⟨g,0,none⟩) L.length a2) v2 (L.set i (jt (L.getD i Lf.zero) ⟨id,kd,I,U,K⟩ now drain)) R):=fun w' b hb hk=>by
  have:=hk.three E b (now+drain) id;rw [hb] at this ⊢;exact this
 obtain ⟨s,a0⟩:∃ s,s=L.getD i Lf.zero:=⟨_,rfl⟩
 rw [<- a0] at hs a1
 have HS:=KL a0
 obtain ⟨c0,c1,c2,c3,c4,c5⟩:=s
 simp only at hs
 obtain ⟨n4,n3⟩:=hs
 obtain ⟨⟨r0,r1⟩,r2,r3⟩:=a6
 have a5:Hid (jt (L.getD i Lf.zero) ⟨id,kd,I,U,K⟩ now drain=jt ⟨c0,c1,c2,c3,c4,c5⟩ ⟨id,kd,I,U,K⟩ now drain):=by show _=_;rw [a0]
 rw [a5.out]
 clear h a0 he
 by_cases n1:c1=1
 ·subst n1;go_in;go_wp2_with fail;refine (dS B p _ v2 L R I _ K0.out a4).mono ?_;rintro e Y ⟨rfl,J⟩;rw [HV.out];have a3:=J.size;simp at a3;have z:=KL (K0.out.below J);have B2:=KL (B0.out.trans (J.mono (by simp;omega)));have xr:=aj J (aB (w:=w) (.cells #[.int .i64 id,.int .i64 kd,.int .i64 I,.int .i64 U,.int .i64 K] 176) rfl) (by simp);have d0:=ae xr 0;simp at d0;have W:=(z.out.cell E (j:=1) (by omega)).1;have q4:=(z.out.cell E (j:=4) (by omega)).1;have q5:=(z.out.cell E (j:=5) (by omega)).1;have f1:=(z.out.cell E (j:=1) (by omega)).2;have f4:=(z.out.cell E (j:=4) (by omega)).2;have f5:=(z.out.cell E (j:=5) (by omega)).2;rw [<- HS.out] at W q4 q5;simp [Lf.cells] at W q4 q5;have lg:g<Y.heap.size:=bV W;have ng:g<w.heap.size:=by omega
  have a8:w.heap.size≠g:=by omega
  have a7:w.heap.size<Y.heap.size:=by omega
  clear J xr;have KF:=KL (a1.out Y 4 rfl z.out);have BF:=KL (((B2.out.setCell (p:=⟨g,i*6+1,none⟩) Z (.int .i64 4)).setCell (p:=⟨g,i*6+4,none⟩) Z (.int .i64 (now+drain))).setCell (p:=⟨g,i*6+5,none⟩) Z (.int .i64 id));exact Q76
 ·have e1:(c1 == 1)=false:=by simpa using n1
  have e3:(c1 == 3)=false:=by simpa using n3
  have e4:(c1 == 4)=false:=by simpa using n4
  go_in;go_wp2_with fail;refine (dS B p _ v2 L R I _ K0.out a4).mono ?_;rintro e Y ⟨rfl,J⟩;rw [HV.out];have a3:=J.size;simp at a3;have z:=KL (K0.out.below J);have B2:=KL (B0.out.trans (J.mono (by simp;omega)));have xr:=aj J (aB (w:=w) (.cells #[.int .i64 id,.int .i64 kd,.int .i64 I,.int .i64 U,.int .i64 K] 176) rfl) (by simp);have d0:=ae xr 0;simp at d0;have W:=(z.out.cell E (j:=1) (by omega)).1;have q4:=(z.out.cell E (j:=4) (by omega)).1;have q5:=(z.out.cell E (j:=5) (by omega)).1;have f1:=(z.out.cell E (j:=1) (by omega)).2;have f4:=(z.out.cell E (j:=4) (by omega)).2;have f5:=(z.out.cell E (j:=5) (by omega)).2;rw [<- HS.out] at W q4 q5;simp [Lf.cells] at W q4 q5;have lg:g<Y.heap.size:=bV W;have ng:g<w.heap.size:=by omega
  have a8:w.heap.size≠g:=by omega
  have a7:w.heap.size<Y.heap.size:=by omega
  clear J xr;have KF:=KL (a1.out Y 3 (by rw [if_neg n1]) z.out);have BF:=KL (((B2.out.setCell (p:=⟨g,i*6+1,none⟩) Z (.int .i64 3)).setCell (p:=⟨g,i*6+4,none⟩) Z (.int .i64 (now+drain))).setCell (p:=⟨g,i*6+5,none⟩) Z (.int .i64 id));exact Q76
theorem Ct (B p:Nat) (v1 v2:Value) (L:List Lf) (R:List Rq) (id kd E I z:Int) (L':List Lf) (a0:Int) (w:World) (K:BkAt B w p v1 v2 L R) (U:L.length<=12) (hA:yX L ⟨id,kd,E,I,z⟩ L' a0) :
  Calls prog 111 #[.pointer (some ⟨p,0,none⟩),.agg #[.int .i64 id,.int .i64 kd,.int .i64 E,.int .i64 I,.int .i64 z]] w (iX B w p v2 L' R a0):=by
 rcases hA with ⟨h,rfl,rfl⟩|⟨h,⟨Z,W,J,Y⟩,rfl,rfl⟩|⟨h,⟨Z,W,J,Y,rfl⟩,rfl⟩|⟨h,J,rfl,rfl⟩
 ·exact sL B p v1 v2 _ R id kd E I z w K h
 ·exact pO B p v1 v2 _ R id kd E I z Z w K U h W J Y
 ·exact sJ B p v1 v2 L R id kd E I z Z w K U h W J Y
 ·exact sK B p v1 v2 L R id kd E I z w K U h J
theorem wY (B p:Nat) (v1 v2:Value) (L:List Lf) (R:List Rq) (id kd E I z now drain:Int) (L':List Lf) (Z:Int) (w:World) (W:BkAt B w p v1 v2 L R) (Y:L.length<=12) (a0:(0<=now/\now<=1099511627776)/\(0<=drain/\drain<=500)) (hA:yT L ⟨id,kd,E,I,z⟩ now drain L' Z) :
  Calls prog 112 #[.pointer (some ⟨p,0,none⟩),.agg #[.int .i64 id,.int .i64 kd,.int .i64 E,.int .i64 I,.int .i64 z],.int .i64 now,.int .i64 drain] w (iX B w p v2 L' R Z):=by
 rcases hA with ⟨h,rfl,rfl⟩|⟨⟨U,J,h,K⟩,rfl,rfl⟩|⟨⟨U,J,h,K⟩,rfl,rfl⟩|⟨U,J,h,K,rfl,rfl⟩
 ·exact sI B p v1 v2 _ R id kd E I z now drain w W Y h
 ·exact pf B p v1 v2 _ R id kd E I z now drain U 8 w W Y J h (Or.inl ⟨K,rfl⟩)
 ·exact pf B p v1 v2 _ R id kd E I z now drain U 12 w W Y J h (Or.inr ⟨K,rfl⟩)
 ·exact uJ B p v1 v2 L R id kd E I z now drain U w W Y a0 J h K
def jV (w:World) (L':List Lf) (R':List Rq) (h:Int) (nw:Bool) (code:Int) (e:Ending) (w':World):Prop:=∃ v1 v2,e=.returned (.tuple #[.agg #[v1,v2],.int .i64 h,.bool nw,.int .i64 code])/\aN w.heap.size w' 6 v1 (L'.map Lf.cells)/\aN w.heap.size w' 5 v2 (R'.map Rq.cells)/\Below w.heap.size w w'
def RqQ (x:Rq) (q:Bool):Prop:=(fR x/\q=true)\/(¬ fR x/\q=false)
def sC (r:Rq) (now drain:Int):Prop:=fR r/\(0<=now/\now<=1099511627776)/\(0<=drain/\drain<=500)
theorem rm (W Y:Value) (L:List Lf) (R:List Rq) (id kd U Z K now drain:Int) (w:World) (I:aK w 6 W (L.map Lf.cells)) (J:aK w 5 Y (R.map Rq.cells)) (h:¬ bJ L R) :
  Calls prog 69 #[.agg #[W,Y],.agg #[.int .i64 id,.int .i64 kd,.int .i64 U,.int .i64 Z,.int .i64 K],.int .i64 now,.int .i64 drain] w (jV w [] [] 0 false 6):=by
 have HL:=KL I
 have HR:=KL J
 have H:=KL h
 obtain ⟨a,c,rfl,_⟩:=ap I
 obtain ⟨a',c',rfl,_⟩:=ap J
 clear I J h
 go_in
 go_wp2_with fail
 refine (gQ _ _ L R _ (ai (ai (ai HL.out _) _) _) (ai (ai (ai HR.out _) _) _) H.out).mono ?_
 rintro e w1 ⟨rfl,E⟩
 have B1:=(((((KM w.heap.size w).alloc (KY _) (.cells #[.slice a L.length c,.slice a' R.length c'] 45)).alloc (by simp) (.cells #[.int .i64 id,.int .i64 kd,.int .i64 U,.int .i64 Z,.int .i64 K] 176)).alloc Zs (.cells #[.slice none 0 0,.slice none 0 0] 45))).trans (E.mono Zs)
 have z:=aj E (aB (w:=World.alloc (World.alloc w _) _) (k:=w.heap.size+1+1) (.cells #[.slice none 0 0,.slice none 0 0] 45) (by simp)) (by simp)
 have d0:=ae z 0
 have d1:=ae z 1
 have g0:=az z 0
 have g1:=az z 1
 have lN:=lt_of_block z
 simp at d0 d1
 clear E z
 go_wp2
 refine LN (v:=.tuple #[.agg #[.slice none 0 0,.slice none 0 0],.int .i64 0,.bool false,.int .i64 6]) ?_ rfl ⟨_,_,rfl,bH _ _ _,bH _ _ _,Zb⟩
 simp [results,results69,go_sem, *]
theorem rp (vl vr:Value) (L:List Lf) (R:List Rq) (id kd E U z now drain:Int) (w:World) (hl:aK w 6 vl (L.map Lf.cells)) (hr:aK w 5 vr (R.map Rq.cells)) (h:bJ L R) (hn:¬ sC ⟨id,kd,E,U,z⟩ now drain) :
  Calls prog 69 #[.agg #[vl,vr],.agg #[.int .i64 id,.int .i64 kd,.int .i64 E,.int .i64 U,.int .i64 z],.int .i64 now,.int .i64 drain] w (jV w [] [] 0 false 2):=by
 have HL:=KL hl
 have HR:=KL hr
 have H:=KL h
 obtain ⟨a,c,rfl,_⟩:=ap hl
 obtain ⟨a',c',rfl,_⟩:=ap hr
 have a1:∃ Y:Bool,RqQ ⟨id,kd,E,U,z⟩ Y/\(Y=false\/(Y=true/\(now<0\/(0<=now/\1099511627776<now)\/((0<=now/\now<=1099511627776)/\drain<0)\/((0<=now/\now<=1099511627776)/\0<=drain/\500<drain)))):=by
  by_cases K:fR ⟨id,kd,E,U,z⟩
  ·refine ⟨true,Or.inl ⟨K,rfl⟩,Or.inr ⟨rfl,?_⟩⟩;have h2:¬ ((0<=now/\now<=1099511627776)/\(0<=drain/\drain<=500)):=fun h=>hn ⟨K,h⟩;omega
  ·exact ⟨false,Or.inr ⟨K,rfl⟩,Or.inl rfl⟩
 obtain ⟨Y,K,hc⟩:=a1
 have HQ:=KL K
 clear hl hr h hn K
 rcases hc with rfl|⟨rfl,Z|⟨Z,h1⟩|⟨⟨Z,h1⟩,h2⟩|⟨⟨Z,h1⟩,h2,h3⟩⟩
 all_goals
  go_in
  go_wp2_with fail;refine (cV _ _ L R _ (ai (ai (ai HL.out _) _) _) (ai (ai (ai HR.out _) _) _) H.out).mono ?_;rintro e w1 ⟨p,v1,v2,rfl,K1,W⟩
  have B1:=KL ((((((KM w.heap.size w).alloc (KY _) (.cells #[.slice a L.length c,.slice a' R.length c'] 45)).alloc (by simp) (.cells #[.int .i64 id,.int .i64 kd,.int .i64 E,.int .i64 U,.int .i64 z] 176)).alloc Zs (.cells #[.slice none 0 0,.slice none 0 0] 45))).trans (W.mono Zs))
  have hN:=KL (aj W (aB (w:=World.alloc (World.alloc w _) _) (k:=w.heap.size+1+1) (.cells #[.slice none 0 0,.slice none 0 0] 45) (by simp)) (by simp))
  have J:=aj W ((KQ (w:=World.alloc (World.alloc w _) _) (.cells #[.slice none 0 0,.slice none 0 0] 45) (w.heap.size+1) (by simp)).trans (aB (w:=World.alloc w _) (k:=w.heap.size+1) (.cells #[.int .i64 id,.int .i64 kd,.int .i64 E,.int .i64 U,.int .i64 z] 176) (by simp))) Zs
  have d0:=ae J 0
  have d1:=ae J 1
  have d2:=ae J 2
  have d3:=ae J 3
  have d4:=ae J 4
  have lN:=lt_of_block hN.out
  simp at d0 d1 d2 d3 d4
  clear W J K1
  go_wp2_with fail
  refine (eR _ _ _ _ _ _ _ HQ.out).mono ?_
  rintro e w2 ⟨rfl,a0⟩
  have B2:=B1.out.trans (a0.mono B1.out.size)
  have I:=aj a0 hN.out lN
  have n0:=ae I 0
  have n1:=ae I 1
  have g0:=az I 0
  have g1:=az I 1
  have a2:=lt_of_block I
  simp at n0 n1
  clear a0 I
  go_wp2
  all_goals first|(refine LN (v:=.tuple #[.agg #[.slice none 0 0,.slice none 0 0],.int .i64 0,.bool false,.int .i64 2]) ?_ rfl ⟨_,_,rfl,bH _ _ _,bH _ _ _,Zb⟩;simp [results,results69,go_sem, *];done)|exact Zx
def kq (id:Int) (x:Rq):Bool:=x.id == id
theorem JI (x:Rq) (b:Nat) (id:Int) (w:World) (h:w.cell? ⟨b,0,none⟩=some (.int .i64 id)):Calls prog 110 #[Rq.agg x,.pointer (some ⟨b,0,none⟩)] w fun e w'=>e=.returned (.bool (kq id x))/\Below w.heap.size w w':=by
 obtain ⟨E,I,J,K,U⟩:=x;have z:=bV h;unfold Rq.agg kq;go_in;go_wp2
 all_goals first|(go_ret;exact ⟨rfl,Zb⟩)|exact Zx
theorem BkAt.addr2 {B:Nat} {w:World} {p:Nat} {v1 v2:Value} {L:List Lf} {R:List Rq} (I:BkAt B w p v1 v2 L R) {i:Nat} (Y:i<R.length):∃ g h,v2=.slice (some ⟨g,0,none⟩) R.length h/\B<=g/\g<p:=by
 rcases I.o2.2 with ⟨_,U⟩|⟨E,h,K,z,J,W,_⟩
 ·omega
 ·exact ⟨E,h,z,J,I.l2 E (by rw [z];rfl)⟩
theorem BkAt.cell2 {B:Nat} {w:World} {p g n E:Nat} {v1:Value} {L:List Lf} {R:List Rq} (h:BkAt B w p v1 (.slice (some ⟨g,0,none⟩) n E) L R) {i j:Nat} (z:i<R.length) (I:j<5):w.cell? ⟨g,i*5+j,none⟩=((R.getD i Rq.zero).cells)[j]?:=by
 have h1:=h.o2
 have e:n=R.length:=by
  exact Q54
 subst e
 have J:i*5+j<R.length*5:=by have:(i+1)*5<=R.length*5:=Lt _ (by omega);omega
 rw [h1.cellAt _ J,fy (nj R) i j (by simpa using z) I];simp [List.getD,z]
theorem uO (vl vr:Value) (L:List Lf) (R:List Rq) (id kd W Z U now drain:Int) (q:Nat) (w:World) (hl:aK w 6 vl (L.map Lf.cells)) (hr:aK w 5 vr (R.map Rq.cells)) (h:bJ L R) (hn:sC ⟨id,kd,W,Z,U⟩ now drain) (hq:q<R.length) (he:aU (kq id) R=q) :
  Calls prog 69 #[.agg #[vl,vr],.agg #[.int .i64 id,.int .i64 kd,.int .i64 W,.int .i64 Z,.int .i64 U],.int .i64 now,.int .i64 drain] w (jV w L R (R.getD q Rq.zero).answer false 0):=by
 have HL:=KL hl;have HR:=KL hr;have H:=KL h;have af:=h.2.1;obtain ⟨a,c,rfl,_⟩:=ap hl;obtain ⟨a',c',rfl,_⟩:=ap hr;have HQ:Hid (RqQ ⟨id,kd,W,Z,U⟩ true):=Or.inl ⟨hn.1,rfl⟩;obtain ⟨_,⟨h0,h1⟩,h2,h3⟩:=hn;clear hl hr h
 have HE:=KL he
 obtain ⟨s,hs⟩:∃ s,s=R.getD q Rq.zero:=⟨_,rfl⟩
 rw [<- hs]
 have a6:=KL hs
 obtain ⟨s0,s1,ay,s3,s4⟩:=s
 clear he hs
 go_in
 go_wp2_with fail;refine (cV _ _ L R _ (ai (ai (ai HL.out _) _) _) (ai (ai (ai HR.out _) _) _) H.out).mono ?_;rintro e w1 ⟨p,v1,v2,rfl,K1,a0⟩
 have B1:=KL ((((((KM w.heap.size w).alloc (KY _) (.cells #[.slice a L.length c,.slice a' R.length c'] 45)).alloc (by simp) (.cells #[.int .i64 id,.int .i64 kd,.int .i64 W,.int .i64 Z,.int .i64 U] 176)).alloc Zs (.cells #[.slice none 0 0,.slice none 0 0] 45))).trans (a0.mono Zs));have hN:=KL (aj a0 (aB (w:=World.alloc (World.alloc w _) _) (k:=w.heap.size+1+1) (.cells #[.slice none 0 0,.slice none 0 0] 45) (by simp)) (by simp));have E:=KL (aj a0 ((KQ (w:=World.alloc (World.alloc w _) _) (.cells #[.slice none 0 0,.slice none 0 0] 45) (w.heap.size+1) (by simp)).trans (aB (w:=World.alloc w _) (k:=w.heap.size+1) (.cells #[.int .i64 id,.int .i64 kd,.int .i64 W,.int .i64 Z,.int .i64 U] 176) (by simp))) Zs);have a7:=KL K1;have a9:=K1.hB;have ao:=K1.lt;simp at a9;clear K1 a0
 have d0:=ae E.out 0;have d1:=ae E.out 1;have d2:=ae E.out 2;have d3:=ae E.out 3;have d4:=ae E.out 4;simp at d0 d1 d2 d3 d4
 go_wp2_with fail;refine (eR _ _ _ _ _ _ _ HQ.out).mono ?_;rintro e w2 ⟨rfl,K⟩
 have B2:=KL (B1.out.trans (K.mono B1.out.size));have lN:=lt_of_block hN.out;have a4:=KL (aj K hN.out lN);have a1:=KL (aj K E.out (lt_of_block E.out));have z:=KL (a7.out.below K);have s2:=K.size;clear K d0 d1 d2 d3 d4;have p0:=ae z.out.hh 0;have p1:=ae z.out.hh 1;have ar:=z.out.lt;have a2:=ae a1.out 0;have av:=lt_of_block a1.out;simp at p0 p1 a2
 have a3:=KL z.out.r2.1
 obtain ⟨g,a8,rfl,ab,ag⟩:=z.out.addr2 hq
 obtain ⟨x1,y1,rfl,_⟩:=aE z.out.o1
 simp at ab
 go_wp2_with fail
 refine (lu 110 ⟨w.heap.size+1,0,none⟩ (fun _ _=>rfl) (kq id) _ R _ a3.out (by omega) (fun x _ w' aa=>JI x _ id w' (aC aa a2))).mono ?_
 rintro e w3 ⟨rfl,Y⟩
 rw [HE.out]
 have I:=KL (z.out.below Y)
 have a5:=KL (B2.out.trans (Y.mono B2.out.size))
 have J:=aj Y a4.out (lt_of_block a4.out)
 have s3:=Y.size
 have n0:=ae J 0
 have n1:=ae J 1
 have g0:=az J 0
 have g1:=az J 1
 have am:=lt_of_block J
 simp at n0 n1
 have ac:=ae I.out.hh 0
 have ad:=ae I.out.hh 1
 have au:=I.out.lt
 simp at ac ad
 have z4:=I.out.cell2 hq (j:=4) (by omega)
 rw [<- a6.out] at z4
 simp [Rq.cells] at z4
 have al:(q:Int)<(R.length:Int):=by omega
 have ak:(0:Int)<=(q:Int):=by omega
 have aw:w.heap.size+1+1≠p:=by omega
 have ax:w.heap.size+1+1≠g:=by omega
 clear Y J p0 p1 a2 a1 a3
 go_wp2_with fail
 go_region
 all_goals go_wp2
 all_goals (refine LN (v:=.tuple #[.agg #[.slice x1 L.length y1,.slice (some ⟨g,0,none⟩) R.length a8],.int .i64 s4,.bool false,.int .i64 0]) ?_ rfl ⟨_,_,rfl,aJ (aD (aD I.out.r1 (by simp) _) (by simp) _) (by first|omega|(simp;done)|(simp;omega)),aJ (aD (aD I.out.r2 (by simp) _) (by simp) _) (by first|omega|(simp;done)|(simp;omega)),((a5.out.setCell (by simp;omega) _).setCell (by simp;omega) _).drew⟩;simp [results,results69,go_sem, *])
theorem sQ (vl vr:Value) (L:List Lf) (R:List Rq) (id kd W Z U now drain:Int) (w:World) (hl:aK w 6 vl (L.map Lf.cells)) (hr:aK w 5 vr (R.map Rq.cells)) (h:bJ L R) (hn:sC ⟨id,kd,W,Z,U⟩ now drain) (he:aU (kq id) R=-1) (hf:R.length=100) :
  Calls prog 69 #[.agg #[vl,vr],.agg #[.int .i64 id,.int .i64 kd,.int .i64 W,.int .i64 Z,.int .i64 U],.int .i64 now,.int .i64 drain] w (jV w L R 9 false 0):=by
 have HL:=KL hl;have HR:=KL hr;have H:=KL h;have ab:=h.2.1;obtain ⟨a,c,rfl,_⟩:=ap hl;obtain ⟨a',c',rfl,_⟩:=ap hr;have HQ:Hid (RqQ ⟨id,kd,W,Z,U⟩ true):=Or.inl ⟨hn.1,rfl⟩;obtain ⟨_,⟨h0,h1⟩,h2,h3⟩:=hn;clear hl hr h
 have HE:=KL he
 have HF:=KL hf
 have ac:((R.length:Int) == 100)=true:=by rw [beq_iff_eq];omega
 clear he hf
 go_in
 go_wp2_with fail;refine (cV _ _ L R _ (ai (ai (ai HL.out _) _) _) (ai (ai (ai HR.out _) _) _) H.out).mono ?_;rintro e w1 ⟨p,v1,v2,rfl,K1,a0⟩
 have B1:=KL ((((((KM w.heap.size w).alloc (KY _) (.cells #[.slice a L.length c,.slice a' R.length c'] 45)).alloc (by simp) (.cells #[.int .i64 id,.int .i64 kd,.int .i64 W,.int .i64 Z,.int .i64 U] 176)).alloc Zs (.cells #[.slice none 0 0,.slice none 0 0] 45))).trans (a0.mono Zs));have hN:=KL (aj a0 (aB (w:=World.alloc (World.alloc w _) _) (k:=w.heap.size+1+1) (.cells #[.slice none 0 0,.slice none 0 0] 45) (by simp)) (by simp));have E:=KL (aj a0 ((KQ (w:=World.alloc (World.alloc w _) _) (.cells #[.slice none 0 0,.slice none 0 0] 45) (w.heap.size+1) (by simp)).trans (aB (w:=World.alloc w _) (k:=w.heap.size+1) (.cells #[.int .i64 id,.int .i64 kd,.int .i64 W,.int .i64 Z,.int .i64 U] 176) (by simp))) Zs);have a6:=KL K1;have a7:=K1.hB;have af:=K1.lt;simp at a7;clear K1 a0
 have d0:=ae E.out 0;have d1:=ae E.out 1;have d2:=ae E.out 2;have d3:=ae E.out 3;have d4:=ae E.out 4;simp at d0 d1 d2 d3 d4
 go_wp2_with fail;refine (eR _ _ _ _ _ _ _ HQ.out).mono ?_;rintro e w2 ⟨rfl,J⟩
 have B2:=KL (B1.out.trans (J.mono B1.out.size));have lN:=lt_of_block hN.out;have a4:=KL (aj J hN.out lN);have a1:=KL (aj J E.out (lt_of_block E.out));have z:=KL (a6.out.below J);have s2:=J.size;clear J d0 d1 d2 d3 d4;have p0:=ae z.out.hh 0;have p1:=ae z.out.hh 1;have ag:=z.out.lt;have a2:=ae a1.out 0;have al:=lt_of_block a1.out;simp at p0 p1 a2
 have a3:=KL z.out.r2.1
 obtain ⟨x1,y1,rfl,_⟩:=aE z.out.o1
 obtain ⟨x2,y2,rfl,_⟩:=aE z.out.o2
 go_wp2_with fail
 refine (lu 110 ⟨w.heap.size+1,0,none⟩ (fun _ _=>rfl) (kq id) _ R _ a3.out (by omega) (fun x _ w' a8=>JI x _ id w' (aC a8 a2))).mono ?_
 rintro e w3 ⟨rfl,Y⟩
 rw [HE.out]
 have K:=KL (z.out.below Y)
 have a5:=KL (B2.out.trans (Y.mono B2.out.size))
 have I:=aj Y a4.out (lt_of_block a4.out)
 have s3:=Y.size
 have n0:=ae I 0
 have n1:=ae I 1
 have g0:=az I 0
 have g1:=az I 1
 have ad:=lt_of_block I
 simp at n0 n1
 have a9:=ae K.out.hh 0
 have aa:=ae K.out.hh 1
 have ak:=K.out.lt
 simp at a9 aa
 have am:w.heap.size+1+1≠p:=by omega
 clear Y I p0 p1 a2 a1 a3
 go_wp2
 all_goals (refine LN (v:=.tuple #[.agg #[.slice x1 L.length y1,.slice x2 R.length y2],.int .i64 9,.bool false,.int .i64 0]) ?_ rfl ⟨_,_,rfl,aJ (aD (aD K.out.r1 (by simp) _) (by simp) _) (by first|omega|(simp;done)|(simp;omega)),aJ (aD (aD K.out.r2 (by simp) _) (by simp) _) (by first|omega|(simp;done)|(simp;omega)),((a5.out.setCell (by simp;omega) _).setCell (by simp;omega) _)⟩;simp [results,results69,go_sem, *])
def pJ (L:List Lf) (R:List Rq) (r:Rq) (now drain:Int) (L':List Lf) (R':List Rq) (h:Int) (nw:Bool):Prop:=
 (∃ z:Nat,z<R.length/\aU (kq r.id) R=z/\L'=L/\R'=R/\h=(R.getD z Rq.zero).answer/\nw=false)\/
 (aU (kq r.id) R=-1/\((R.length=100/\L'=L/\R'=R/\h=9/\nw=false)\/(R.length≠100/\nw=true/\
  ((r.kind=1/\yX L r L' h/\R'=R++[⟨r.id,1,r.backend,r.weight,h⟩])\/
   (r.kind=2/\yT L ⟨r.id,2,r.backend,0,r.answer⟩ now drain L' h/\R'=R++[⟨r.id,2,r.backend,0,h⟩])))))
def I6 (L:List Lf) (R:List Rq) (r:Rq) (now drain:Int) (L':List Lf) (R':List Rq) (h:Int) (nw:Bool) (code:Int):Prop:=
 (¬ bJ L R/\L'=[]/\R'=[]/\h=0/\nw=false/\code=6)\/
 (bJ L R/\¬ sC r now drain/\L'=[]/\R'=[]/\h=0/\nw=false/\code=2)\/
 (bJ L R/\sC r now drain/\pJ L R r now drain L' R' h nw/\code=0)
end
end Go.Proofs.YtennppmadmgfoaaGreatDoor
