/- Texts of the row's proof. Conditions: none. -/
import Derived.Test.YtfliffgmeobclaaGreatK15
import Derived.Test.YtfliffgmeobclaaGreatK18
namespace Go.Proofs.YtfliffgmeobclaaGreat
set_option maxRecDepth 100000
set_option maxHeartbeats 8000000
section
open Go.RowKit
theorem Q65 {p:Prop} (h:p:=by
 clear hK K;refine Z1 9 (fun K hK=>?_);go_simp
 go_at_call 143
 refine HIns.out.mono ?_;rintro e w5 ⟨a',cap',rfl,c5,f5,S5,HRest⟩;go_wp2_with fail;refine Zk hK (hS:=by exact S5) fun hHeld=>?_;clear hK K;refine df 10 ?_;refine Zt 12 ?_;refine Z1 13 (fun K hK=>?_);go_simp;refine Zk hK (hS:=by (obtain ⟨s0,s1,s2,s3,s4,s5⟩:=hHeld;exact ⟨(aR (by omega)).trans s0,(aR (by omega)).trans s1,(aR (by omega)).trans s2,(aR (by omega)).trans s3,(aR (by omega)).trans s4,(aR (by omega)).trans s5⟩)) fun hHeld=>?_;clear hK K;refine Zd ?_;obtain ⟨h5,ho1,ho2,hb5⟩:=HRest.out
 have HO:Hid (BkO B (w5.setCell ⟨p,0,none⟩ (.slice a' (L.length+1) cap')) p (.slice a' (L.length+1) cap') v2 (eo L (nB L bk) ⟨bk,1,wt,0,0,0⟩) R):=by
  refine ⟨hB,aP h5 _,?_,?_⟩
  ·rw [Dp _ _ _ (qi L bk)];exact ownsRow_setCell_other ho1 (kl ho1 h5 (by decide)) _
  ·exact ownsRow_setCell_other ho2 (kl ho2 h5 (by decide)) _
 have HBF:=Hu (hb5.setCell (p:=⟨p,0,none⟩) hB (.slice a' (L.length+1) cap'));clear h5 ho1 ho2 hb5 c5 f5;go_wp2
 all_goals first|(go_ret;exact ⟨rfl,⟨_,HO.out⟩,HBF.out⟩)|exact Zx):p:=h
theorem Q10 {p:Prop} (h:p:=by
 clear hk;refine wp_region_noPanic ?_;refine wp_region_held_drew (S:=(fun w'=>w'.cell? ⟨w.heap.size+1,0,none⟩=some (.int .i64 bk)∧w'.cell? ⟨w.heap.size+1,1,none⟩=some (.int .i64 1)∧w'.cell? ⟨w.heap.size+1,2,none⟩=some (.int .i64 wt)∧w'.cell? ⟨w.heap.size+1,3,none⟩=some (.int .i64 0)∧w'.cell? ⟨w.heap.size+1,4,none⟩=some (.int .i64 0)∧w'.cell? ⟨w.heap.size+1,5,none⟩=some (.int .i64 0))) (by kernel_rfl) ?hb (fun hHeld=>?_)
 case hb=>exact ⟨zx0,zx1,zx2,zx3,zx4,zx5⟩
 have lS:w.heap.size+1<wz.heap.size:=zs;have pS:p≠w.heap.size+1:=by omega
 refine eP 0 ?_;refine Zt 4 ?_;refine df 6 ?_;refine Z2 5 8 (fun K hK=>?_) (fun K hK=>?_)
 ·skip
  go_simp;refine Zk hK (hS:=by exact hHeld) fun hHeld=>?_;clear hK K;refine Z1 8 (fun K hK=>?_);go_simp;refine Zk hK (hS:=by (obtain ⟨s0,s1,s2,s3,s4,s5⟩:=hHeld;exact ⟨aE _ s0,aE _ s1,aE _ s2,aE _ s3,aE _ s4,aE _ s5⟩)) fun hHeld=>?_;exact Q65
 ·skip
  go_simp;refine Zk hK (hS:=by (obtain ⟨s0,s1,s2,s3,s4,s5⟩:=hHeld;exact ⟨aE _ s0,aE _ s1,aE _ s2,aE _ s3,aE _ s4,aE _ s5⟩)) fun hHeld=>?_;clear hK K;refine Z1 5 (fun K hK=>?_);go_simp;refine Zk hK (hS:=by exact hHeld) fun hHeld=>?_;exact Q65):p:=h
theorem Q13 {p:Prop} (h:p:=by
 have LB2:Hid (w.heap.size+1+1<B):=by show _<_;omega
 have HFB:Hid (Below w.heap.size w (w6.setCell ⟨p,1,none⟩ (.slice x3 (R.length+1) y3))):=KZ6.out.2.2.2.2.setCell (by show _≤p;omega) _;clear hx6 hN6 c6 f6;go_wp2_with fail
 go_region
 all_goals go_wp2
 all_goals (refine Ix (v:=.tuple #[.agg #[.slice x1 L'.length y1,.slice x3 (R.length+1) y3],.int .i64 ans,.bool true,.int .i64 0]) ?_ rfl ⟨_,_,rfl,aG (aB (aB HF1.out (p:=⟨w.heap.size+1+1,0,none⟩) LB2.out _) (p:=⟨w.heap.size+1+1,1,none⟩) LB2.out _) (by first|omega|(simp;done)|(simp;omega)),aG (aB (aB HF2.out (p:=⟨w.heap.size+1+1,0,none⟩) LB2.out _) (p:=⟨w.heap.size+1+1,1,none⟩) LB2.out _) (by first|omega|(simp;done)|(simp;omega)),((HFB.out.setCell (by simp;omega) _).setCell (by simp;omega) _).drew⟩;simp [results,Tryz.results65,go_sem, *])):p:=h
theorem Q21 {p:Prop} (h:p:=by
 intro v' w6 ho hg;have hh:=KZ.out.hh;have npx:=kl KZ.out.o2 hh (by decide);have nlt:∀ b,(Value.slice x2 R.length y2).ownBlock=some b→B≤b:=fun b hb=>(KZ.out.o2.lt b hb).1;have hp6:w6.heap[p]?=some (.cells #[.slice x1 L'.length y1,.slice x2 R.length y2] 223 (0,0)):=(hg.block p (by simp;omega) (Ne.symm npx)).trans ((Hz (w:=wz.drew) _ _ lpz).trans hh);have hr6:∀ o,w6.cell? ⟨w.heap.size+1,o,none⟩=wz.cell? ⟨w.heap.size+1,o,none⟩:=fun o=>I8 (a:=⟨w.heap.size+1,o,none⟩) ((hg.block (w.heap.size+1) (by simp;omega) (fun e=>by have:=nlt _ e.symm;omega)).trans (Hz (w:=wz.drew) _ _ (by show _<wz.heap.size;omega)));refine ⟨⟨(hr6 0).trans e0,(hr6 1).trans e1',(hr6 2).trans e2,(hr6 3).trans e3,(hr6 4).trans e4⟩,by rw [ae hp6];rfl,ap hp6 1,hp6,?_,by simpa using ho,?_,?_⟩
 ·obtain ⟨q1,q2|⟨gg,c2,cur,q3,q4,q5,q6⟩⟩:=KZ.out.o1
  ·exact ⟨q1,.inl q2⟩
  ·exact ⟨q1,.inr ⟨gg,c2,cur,q3,q4,(hg.block gg (by have:=lt_of_block q5;simp;omega) (Ne.symm (kl KZ.out.o2 q5 (by decide)))).trans ((Hz (w:=wz.drew) _ _ (lt_of_block q5)).trans q5),q6⟩⟩
 ·exact (hg.block _ (by simp;omega) (fun e=>by have:=nlt _ e.symm;omega)).trans ((Hz (w:=wz.drew) _ _ (by show _<wz.heap.size;omega)).trans hNz)
 ·exact ((BZ.out.drew).alloc (by have:=BZ.out.size;exact this) _).grown hg (by have:=BZ.out.size;simp;omega) (fun b hb=>by have:=nlt b hb;omega)):p:=h
theorem Q39 {p:Prop} (h:p:=by
 have hb5:=hg.block (w.heap.size+1) (by show _<_;simp;omega) nx;have e5:∀ o,w5.cell? ⟨w.heap.size+1,o,none⟩=(wz.alloc (.cells #[.int .i64 bk,.int .i64 1,.int .i64 wt,.int .i64 0,.int .i64 0,.int .i64 0] 94)).drew.cell? ⟨w.heap.size+1,o,none⟩:=fun o=>I8 (a:=⟨w.heap.size+1,o,none⟩) hb5;exact ⟨(e5 0).trans (aE (w:=wz) _ zx0),(e5 1).trans (aE (w:=wz) _ zx1),(e5 2).trans (aE (w:=wz) _ zx2),(e5 3).trans (aE (w:=wz) _ zx3),(e5 4).trans (aE (w:=wz) _ zx4),(e5 5).trans (aE (w:=wz) _ zx5)⟩):p:=h
theorem Q59 {p:Prop} (h:p:=by
 have hb1:Below B w (wz.alloc (.cells #[.int .i64 bk,.int .i64 1,.int .i64 wt,.int .i64 0,.int .i64 0,.int .i64 0] 94)).drew:=(BZ.out.alloc (by have:=KZ.out.hB;omega) _).drew;refine hb1.grown hg (by have:=KZ.out.hB;show B≤_;simp;omega) (fun r hr=>(KZ.out.o1.lt r hr).1)):p:=h
theorem Q63 {p:Prop} (h:p:=by
 clear hK K hown' hgrow;(try simp only [Act.put,List.setIfInBounds_toArray,List.set_cons_zero,List.set_cons_succ]);refine df 9 ?_;refine Zt 11 ?_;refine Z1 12 (fun K hK=>?_);go_simp;refine Zk hK (hS:=by (obtain ⟨s0,s1,s2,s3,s4⟩:=hHeld;exact ⟨(aR (by omega)).trans s0,(aR (by omega)).trans s1,(aR (by omega)).trans s2,(aR (by omega)).trans s3,(aR (by omega)).trans s4⟩)) fun hHeld=>?_;clear hK K;refine Zd ?_;have hx6:=HRest.out.2.2.1;have KZ6:=Hu (HRest.out.2.2);have z0:=ae (aP (j:=1) hx6 (.slice x3 (R.length+1) y3)) 0;have z1:=ae (aP (j:=1) hx6 (.slice x3 (R.length+1) y3)) 1;simp at z0 z1;obtain ⟨u0,u1,u2,u3,u4⟩:=hHeld;have lp6:p<w6.heap.size:=lt_of_block hx6;have ln6:w.heap.size+1+1<w6.heap.size:=by omega
 have hN6:=KZ6.out.2.2.2.1;have n0:=(aR (u:=.slice x3 (R.length+1) y3) (g:=p) (i:=1) ne1).trans (ae hN6 0);have n1:=(aR (u:=.slice x3 (R.length+1) y3) (g:=p) (i:=1) ne1).trans (ae hN6 1);have g0:=ap (aU (j:=1) (u:=.slice x3 (R.length+1) y3) hN6 ne1) 0;have g1:=ap (aU (j:=1) (u:=.slice x3 (R.length+1) y3) hN6 ne1) 1;simp at n0 n1;have HF1:Hid (aM B (w6.setCell ⟨p,1,none⟩ (.slice x3 (R.length+1) y3)) 6 (.slice x1 L'.length y1) (L'.map Lf.cells)):=aD (ownsRow_setCell_other KZ6.out.2.1 (kl KZ6.out.2.1 hx6 (by decide)) _) (by simp) (j5 L');have HF2:Hid (aM B (w6.setCell ⟨p,1,none⟩ (.slice x3 (R.length+1) y3)) 5 (.slice x3 (R.length+1) y3) ((R++[Rq.mk id 1 bk wt ans]).map Rq.cells)):=aD (n:=R.length+1) (ownsRow_setCell_other KZ6.out.2.2.1 (kl KZ6.out.2.2.1 hx6 (by decide)) _) (by simp) (mz _);exact Q13):p:=h
theorem Q64 {p:Prop} (h:p:=by
 clear hK K hown' hgrow;(try simp only [Act.put,List.setIfInBounds_toArray,List.set_cons_zero,List.set_cons_succ]);refine df 9 ?_;refine Zt 11 ?_;refine Z1 12 (fun K hK=>?_);go_simp;refine Zk hK (hS:=by (obtain ⟨s0,s1,s2,s3,s4⟩:=hHeld;exact ⟨(aR (by omega)).trans s0,(aR (by omega)).trans s1,(aR (by omega)).trans s2,(aR (by omega)).trans s3,(aR (by omega)).trans s4⟩)) fun hHeld=>?_;clear hK K;refine Zd ?_;have hx6:=HRest.out.2.2.1;have KZ6:=Hu (HRest.out.2.2);have z0:=ae (aP (j:=1) hx6 (.slice x3 (R.length+1) y3)) 0;have z1:=ae (aP (j:=1) hx6 (.slice x3 (R.length+1) y3)) 1;simp at z0 z1;obtain ⟨u0,u1,u2,u3,u4⟩:=hHeld;have lp6:p<w6.heap.size:=lt_of_block hx6;have ln6:w.heap.size+1+1<w6.heap.size:=by omega
 have hN6:=KZ6.out.2.2.2.1;have n0:=(aR (u:=.slice x3 (R.length+1) y3) (g:=p) (i:=1) ne1).trans (ae hN6 0);have n1:=(aR (u:=.slice x3 (R.length+1) y3) (g:=p) (i:=1) ne1).trans (ae hN6 1);have g0:=ap (aU (j:=1) (u:=.slice x3 (R.length+1) y3) hN6 ne1) 0;have g1:=ap (aU (j:=1) (u:=.slice x3 (R.length+1) y3) hN6 ne1) 1;simp at n0 n1;have HF1:Hid (aM B (w6.setCell ⟨p,1,none⟩ (.slice x3 (R.length+1) y3)) 6 (.slice x1 L'.length y1) (L'.map Lf.cells)):=aD (ownsRow_setCell_other KZ6.out.2.1 (kl KZ6.out.2.1 hx6 (by decide)) _) (by simp) (j5 L');have HF2:Hid (aM B (w6.setCell ⟨p,1,none⟩ (.slice x3 (R.length+1) y3)) 5 (.slice x3 (R.length+1) y3) ((R++[Rq.mk id 2 bk 0 ans]).map Rq.cells)):=aD (n:=R.length+1) (ownsRow_setCell_other KZ6.out.2.2.1 (kl KZ6.out.2.2.1 hx6 (by decide)) _) (by simp) (mz _);exact Q13):p:=h
theorem Q78 {p:Prop} (h:p:=by
 obtain ⟨q1,q2|⟨gg,c2,cur,q3,q4,q5,q6⟩⟩:=KW.o2
 ·exact ⟨q1,.inl q2⟩
 ·refine ⟨q1,.inr ⟨gg,c2,cur,q3,q4,(hg.block gg (lt_of_block q5) ?_).trans q5,q6⟩⟩;intro e;exact KW.dis gg e.symm (by rw [q3];rfl)):p:=h
theorem Q82 {p:Prop} (h:p:=by
 go_wp2_with fail
 go_region
 all_goals go_wp2
 all_goals (refine Ix (v:=.int .i64 0) ?_ rfl ⟨rfl,⟨_,KF.out.o.below ((Hv _ _).drew)⟩,BF.out.drew⟩;simp [results,Tryz.results108,go_sem, *])):p:=h
def nB (L:List Lf) (b:Int):Nat:=L.findIdx fun x=>!decide (x.backend<b)
theorem qi (L:List Lf) (b:Int):nB L b≤L.length:=List.findIdx_le_length
theorem plN_lt {L:List Lf} {b:Int} {j:Nat} (h:j<nB L b):(L.getD j Lf.zero).backend<b:=by
 have hl:=Nat.lt_of_lt_of_le h (qi L b);have:=List.not_of_lt_findIdx h;simp [List.getD,hl] at this ⊢;exact this
theorem plN_at {L:List Lf} {b:Int} (h:nB L b<L.length):¬ (L.getD (nB L b) Lf.zero).backend<b:=by
 have:=List.findIdx_getElem (w:=h);simp [List.getD,h] at this ⊢;exact this
theorem vK {α β:Type} (f:α→β) (X:List α) (i:Nat) (c:α):(eo X i c).map f=eo (X.map f) i (f c):=by simp [eo]
def lh (r:Rq):Lf:=⟨r.backend,1,r.weight,0,0,0⟩
def xt (L:List Lf) (r:Rq) (L':List Lf) (ans:Int):Prop:=
 (¬ ((0≤r.backend∧r.backend≤11)∧(1≤r.weight∧r.weight≤8))∧L'=L∧ans=2)∨
 (((0≤r.backend∧r.backend≤11)∧(1≤r.weight∧r.weight≤8))∧(∃ i:Nat,i<L.length∧aQ (cE r.backend) L=i∧(L.getD i Lf.zero).state≠4)∧L'=L∧ans=7)∨
 (((0≤r.backend∧r.backend≤11)∧(1≤r.weight∧r.weight≤8))∧(∃ i:Nat,i<L.length∧aQ (cE r.backend) L=i∧(L.getD i Lf.zero).state=4∧L'=L.set i (lh r))∧ans=0)∨
 (((0≤r.backend∧r.backend≤11)∧(1≤r.weight∧r.weight≤8))∧aQ (cE r.backend) L=-1∧L'=eo L (nB L r.backend) (lh r)∧ans=0)
def jl (x:Lf) (r:Rq) (now drain:Int):Lf:={ x with state:=if x.state=1 then 4 else 3,until_:=now+drain,request:=r.id }
def xn (L:List Lf) (r:Rq) (now drain:Int) (L':List Lf) (ans:Int):Prop:=
 (aQ (cE r.backend) L=-1∧L'=L∧ans=8)∨
 ((∃ i:Nat,i<L.length∧aQ (cE r.backend) L=i∧(L.getD i Lf.zero).state=4)∧L'=L∧ans=8)∨
 ((∃ i:Nat,i<L.length∧aQ (cE r.backend) L=i∧(L.getD i Lf.zero).state=3)∧L'=L∧ans=12)∨
 (∃ i:Nat,i<L.length∧aQ (cE r.backend) L=i∧((L.getD i Lf.zero).state≠4∧(L.getD i Lf.zero).state≠3)∧L'=L.set i (jl (L.getD i Lf.zero) r now drain)∧ans=0)
structure BkO (B:Nat) (w:World) (p:Nat) (v1 v2:Value) (L:List Lf) (R:List Rq):Prop where
 hB:B≤p
 hh:w.heap[p]?=some (.cells #[v1,v2] 223 (0,0))
 o1:w.ownsRow B 94 6 v1 L.length (L.map Lf.cells).flatten
 o2:w.ownsRow B 148 5 v2 R.length (R.map Rq.cells).flatten
theorem BkAt.o {B:Nat} {w:World} {p:Nat} {v1 v2:Value} {L:List Lf} {R:List Rq} (h:BkAt B w p v1 v2 L R):BkO B w p v1 v2 L R:=⟨h.hB,h.hh,h.o1,h.o2⟩
theorem BkO.lt {B:Nat} {w:World} {p:Nat} {v1 v2:Value} {L:List Lf} {R:List Rq} (h:BkO B w p v1 v2 L R):p<w.heap.size:=lt_of_block h.hh
theorem BkO.below {B:Nat} {w w':World} {p:Nat} {v1 v2:Value} {L:List Lf} {R:List Rq} (h:BkO B w p v1 v2 L R) (hb:Below w.heap.size w w'):BkO B w' p v1 v2 L R:=
 ⟨h.hB,aj hb h.hh h.lt,bA h.o1 hb,bA h.o2 hb⟩
def iP (B:Nat) (w:World) (p:Nat) (v2:Value) (L':List Lf) (R:List Rq) (ans:Int) (e:Ending) (w':World):Prop:=e=.returned (.int .i64 ans)∧(∃ v1,BkO B w' p v1 v2 L' R)∧Below B w w'
theorem BkAt.six {B:Nat} {w:World} {p g cap:Nat} {v2:Value} {L:List Lf} {R:List Rq} {i:Nat} (h:BkAt B w p (.slice (some ⟨g,0,none⟩) L.length cap) v2 L R) (hi:i<L.length) (a b c d e f:Int) :
  BkAt B ((((((w.setCell ⟨g,i*6,none⟩ (.int .i64 a)).setCell ⟨g,i*6+1,none⟩ (.int .i64 b)).setCell ⟨g,i*6+2,none⟩ (.int .i64 c)).setCell ⟨g,i*6+3,none⟩ (.int .i64 d)).setCell ⟨g,i*6+4,none⟩ (.int .i64 e)).setCell ⟨g,i*6+5,none⟩ (.int .i64 f)) p (.slice (some ⟨g,0,none⟩) L.length cap) v2 (L.set i ⟨a,b,c,d,e,f⟩) R:=by
 obtain ⟨s,hs⟩:∃ s,s=L.getD i Lf.zero:=⟨_,rfl⟩
 obtain ⟨x0,x1,x2,x3,x4,x5⟩:=s
 have gd:∀ (M:List Lf) (y:Lf),M.length=L.length→(M.set i y).getD i Lf.zero=y:=fun M y hM=>by simp [List.getD,hM,hi]
 have k0:=BkAt.field (j:=0) (v:=.int .i64 a) (x:=⟨a,x1,x2,x3,x4,x5⟩) h hi (by omega) (by rw [← hs];rfl)
 rw [Nat.add_zero] at k0
 have l0:(L.set i ⟨a,x1,x2,x3,x4,x5⟩).length=L.length:=Ig ..
 have k1:=BkAt.field (j:=1) (v:=.int .i64 b) (x:=⟨a,b,x2,x3,x4,x5⟩) (L:=L.set i ⟨a,x1,x2,x3,x4,x5⟩) (by rw [l0];exact k0) (by rw [l0];exact hi) (by omega) (by rw [gd _ _ rfl];rfl)
 rw [List.set_set,l0] at k1
 have k2:=BkAt.field (j:=2) (v:=.int .i64 c) (x:=⟨a,b,c,x3,x4,x5⟩) (L:=L.set i ⟨a,b,x2,x3,x4,x5⟩) (by rw [Ig];exact k1) (by rw [Ig];exact hi) (by omega) (by rw [gd _ _ rfl];rfl)
 rw [List.set_set,Ig] at k2
 have k3:=BkAt.field (j:=3) (v:=.int .i64 d) (x:=⟨a,b,c,d,x4,x5⟩) (L:=L.set i ⟨a,b,c,x3,x4,x5⟩) (by rw [Ig];exact k2) (by rw [Ig];exact hi) (by omega) (by rw [gd _ _ rfl];rfl)
 rw [List.set_set,Ig] at k3
 have k4:=BkAt.field (j:=4) (v:=.int .i64 e) (x:=⟨a,b,c,d,e,x5⟩) (L:=L.set i ⟨a,b,c,d,x4,x5⟩) (by rw [Ig];exact k3) (by rw [Ig];exact hi) (by omega) (by rw [gd _ _ rfl];rfl)
 rw [List.set_set,Ig] at k4
 have k5:=BkAt.field (j:=5) (v:=.int .i64 f) (x:=⟨a,b,c,d,e,f⟩) (L:=L.set i ⟨a,b,c,d,e,x5⟩) (by rw [Ig];exact k4) (by rw [Ig];exact hi) (by omega) (by rw [gd _ _ rfl];rfl)
 rw [List.set_set,Ig] at k5
 exact k5
theorem ru (B p:Nat) (v1 v2:Value) (L:List Lf) (R:List Rq) (id kd bk wt an:Int) (w:World) (h:BkAt B w p v1 v2 L R) (hr:¬ ((0≤bk∧bk≤11)∧(1≤wt∧wt≤8))) :
  Calls Tryz.prog 107 #[.pointer (some ⟨p,0,none⟩),.agg #[.int .i64 id,.int .i64 kd,.int .i64 bk,.int .i64 wt,.int .i64 an]] w (iP B w p v2 L R 2):=by
 have H:=Hu h
 have lp:=h.lt
 have hB:=h.hB
 clear h
 rcases (show bk<0∨(0≤bk∧12≤bk)∨(0≤bk∧bk≤11∧wt<1)∨(0≤bk∧bk≤11∧1≤wt∧8<wt) by omega) with h0|⟨h0,h1⟩|⟨h0,h1,h2⟩|⟨h0,h1,h2,h3⟩
 all_goals
  clear hr
  have K:=Hu (H.out.below (((Hv w.heap.size w).alloc (I3 _) (.cells #[.int .i64 id,.int .i64 kd,.int .i64 bk,.int .i64 wt,.int .i64 an] 148))))
  have BB:Below B w (w.alloc (.cells #[.int .i64 id,.int .i64 kd,.int .i64 bk,.int .i64 wt,.int .i64 an] 148)):=(Hv B w).alloc (by omega) _
  go_enter Tryz.func107,Tryz.ntmps107
  go_wp2
  all_goals first|(go_ret;exact ⟨rfl,⟨_,K.out.o⟩,BB⟩)|exact Zx
theorem oK (B p:Nat) (v1 v2:Value) (L:List Lf) (R:List Rq) (id kd bk wt an:Int) (i:Nat) (w:World) (h:BkAt B w p v1 v2 L R) (h12:L.length≤12) (hr:(0≤bk∧bk≤11)∧(1≤wt∧wt≤8)) (hi:i<L.length) (he:aQ (cE bk) L=i) (hs:(L.getD i Lf.zero).state≠4) :
  Calls Tryz.prog 107 #[.pointer (some ⟨p,0,none⟩),.agg #[.int .i64 id,.int .i64 kd,.int .i64 bk,.int .i64 wt,.int .i64 an]] w (iP B w p v2 L R 7):=by
 have H:=Hu h;have lp:=h.lt;have hB:=h.hB;have K0:=Hu (h.below (((Hv w.heap.size w).alloc (I3 _) (.cells #[.int .i64 id,.int .i64 kd,.int .i64 bk,.int .i64 wt,.int .i64 an] 148)).alloc (by simp) (.cells #[.int .i64 bk,.int .i64 1,.int .i64 wt,.int .i64 0,.int .i64 0,.int .i64 0] 94)));have B0:=Hu (((Hv B w).alloc (by omega) (.cells #[.int .i64 id,.int .i64 kd,.int .i64 bk,.int .i64 wt,.int .i64 an] 148)).alloc (by simp;omega) (.cells #[.int .i64 bk,.int .i64 1,.int .i64 wt,.int .i64 0,.int .i64 0,.int .i64 0] 94))
 obtain ⟨g,cap,rfl,hg1,hg2⟩:=h.addr hi
 have HV:Hid (jR (.slice (some ⟨g,0,none⟩) L.length cap) (aQ (cE bk) L)=.pointer (some ⟨g,i*6,none⟩)):=by show jR _ _=_;rw [he];simp [jR]
 obtain ⟨s,hs'⟩:∃ s,s=L.getD i Lf.zero:=⟨_,rfl⟩
 rw [← hs'] at hs
 have HS:=Hu hs'
 obtain ⟨c0,c1,c2,c3,c4,c5⟩:=s
 simp only at hs
 have e1:(c1 != 4)=true:=by simpa using hs
 obtain ⟨⟨r0,r1⟩,r2,r3⟩:=hr
 clear h hs hs' he
 go_enter Tryz.func107,Tryz.ntmps107
 go_wp2_with fail
 refine (dP B p _ v2 L R bk _ K0.out h12).mono ?_
 rintro e w2 ⟨rfl,hb2⟩
 rw [HV.out]
 have hy2:=hb2.size
 simp at hy2
 have K2:=Hu (K0.out.below hb2)
 have B2:=Hu (B0.out.trans (hb2.mono (by simp;omega)))
 have q1:=(K2.out.cell hi (j:=1) (by omega)).1
 rw [← HS.out] at q1
 simp [Lf.cells] at q1
 clear hb2
 go_wp2
 all_goals first|(go_ret;exact ⟨rfl,⟨_,K2.out.o⟩,B2.out⟩)|exact Zx
theorem rs (B p:Nat) (v1 v2:Value) (L:List Lf) (R:List Rq) (id kd bk wt an:Int) (i:Nat) (w:World) (h:BkAt B w p v1 v2 L R) (h12:L.length≤12) (hr:(0≤bk∧bk≤11)∧(1≤wt∧wt≤8)) (hi:i<L.length) (he:aQ (cE bk) L=i) (hs:(L.getD i Lf.zero).state=4) :
  Calls Tryz.prog 107 #[.pointer (some ⟨p,0,none⟩),.agg #[.int .i64 id,.int .i64 kd,.int .i64 bk,.int .i64 wt,.int .i64 an]] w (iP B w p v2 (L.set i ⟨bk,1,wt,0,0,0⟩) R 0):=by
 have H:=Hu h;have lp:=h.lt;have hB:=h.hB;have K0:=Hu (h.below (((Hv w.heap.size w).alloc (I3 _) (.cells #[.int .i64 id,.int .i64 kd,.int .i64 bk,.int .i64 wt,.int .i64 an] 148)).alloc (by simp) (.cells #[.int .i64 bk,.int .i64 1,.int .i64 wt,.int .i64 0,.int .i64 0,.int .i64 0] 94)));have B0:=Hu (((Hv B w).alloc (by omega) (.cells #[.int .i64 id,.int .i64 kd,.int .i64 bk,.int .i64 wt,.int .i64 an] 148)).alloc (by simp;omega) (.cells #[.int .i64 bk,.int .i64 1,.int .i64 wt,.int .i64 0,.int .i64 0,.int .i64 0] 94))
 obtain ⟨g,cap,rfl,hg1,hg2⟩:=h.addr hi
 have HV:Hid (jR (.slice (some ⟨g,0,none⟩) L.length cap) (aQ (cE bk) L)=.pointer (some ⟨g,i*6,none⟩)):=by show jR _ _=_;rw [he];simp [jR]
 obtain ⟨s,hs'⟩:∃ s,s=L.getD i Lf.zero:=⟨_,rfl⟩
 rw [← hs'] at hs
 have HS:=Hu hs'
 obtain ⟨c0,c1,c2,c3,c4,c5⟩:=s
 simp only at hs
 subst hs
 obtain ⟨⟨r0,r1⟩,r2,r3⟩:=hr
 clear h hs' he
 go_enter Tryz.func107,Tryz.ntmps107
 go_wp2_with fail
 refine (dP B p _ v2 L R bk _ K0.out h12).mono ?_
 rintro e w2 ⟨rfl,hb2⟩
 rw [HV.out]
 have hy2:=hb2.size
 simp at hy2
 have K2:=Hu (K0.out.below hb2)
 have B2:=Hu (B0.out.trans (hb2.mono (by simp;omega)))
 have xx:=aj hb2 (az (w:=w.alloc (.cells #[.int .i64 id,.int .i64 kd,.int .i64 bk,.int .i64 wt,.int .i64 an] 148)) (k:=w.heap.size+1) (.cells #[.int .i64 bk,.int .i64 1,.int .i64 wt,.int .i64 0,.int .i64 0,.int .i64 0] 94) (by simp)) (by simp)
 have d0:=ae xx 0
 have d1:=ae xx 1
 have d2:=ae xx 2
 have d3:=ae xx 3
 have d4:=ae xx 4
 have d5:=ae xx 5
 simp at d0 d1 d2 d3 d4 d5
 have q0:=(K2.out.cell hi (j:=0) (by omega)).1
 have q1:=(K2.out.cell hi (j:=1) (by omega)).1
 have q2:=(K2.out.cell hi (j:=2) (by omega)).1
 have q3:=(K2.out.cell hi (j:=3) (by omega)).1
 have q4:=(K2.out.cell hi (j:=4) (by omega)).1
 have q5:=(K2.out.cell hi (j:=5) (by omega)).1
 have f0:=(K2.out.cell hi (j:=0) (by omega)).2
 have f1:=(K2.out.cell hi (j:=1) (by omega)).2
 have f2:=(K2.out.cell hi (j:=2) (by omega)).2
 have f3:=(K2.out.cell hi (j:=3) (by omega)).2
 have f4:=(K2.out.cell hi (j:=4) (by omega)).2
 have f5:=(K2.out.cell hi (j:=5) (by omega)).2
 rw [← HS.out] at q0 q1 q2 q3 q4 q5
 simp [Lf.cells] at q0 q1 q2 q3 q4 q5 f0
 have lg:g<w2.heap.size:=bR q0
 have ng:g<w.heap.size:=by omega
 have K6:=Hu (K2.out.six hi bk 1 wt 0 0 0)
 have B6:=Hu ((((((B2.out.setCell (p:=⟨g,i*6,none⟩) hg1 (.int .i64 bk)).setCell (p:=⟨g,i*6+1,none⟩) hg1 (.int .i64 1)).setCell (p:=⟨g,i*6+2,none⟩) hg1 (.int .i64 wt)).setCell (p:=⟨g,i*6+3,none⟩) hg1 (.int .i64 0)).setCell (p:=⟨g,i*6+4,none⟩) hg1 (.int .i64 0)).setCell (p:=⟨g,i*6+5,none⟩) hg1 (.int .i64 0))
 clear hb2 xx
 go_wp2
 all_goals first|(go_ret;exact ⟨rfl,⟨_,K6.out.o⟩,B6.out⟩)|exact Zx
theorem kl {w:World} {B e sz n p:Nat} {v:Value} {xs:List Value} {cs:Array Value} {T:TypeId} {fr:Nat×Nat} (h:w.ownsRow B e sz v n xs) (hp:w.heap[p]?=some (.cells cs T fr)) (hT:e≠T):v.ownBlock≠some p:=by
 obtain ⟨_,⟨rfl,_⟩|⟨g,cap,cur,rfl,_,hg,_⟩⟩:=h
 ·intro e
  cases e
 ·intro e;simp only [Value.ownBlock,Option.some.injEq] at e;subst e;rw [hg] at hp;simp only [Option.some.injEq,Obj.cells.injEq] at hp;exact hT hp.2.1
theorem zq (L:List Lf):∀ u∈(L.map Lf.cells).flatten,u.oneCell'=true:=by
 exact Q108
theorem rt (B p:Nat) (v1 v2:Value) (L:List Lf) (R:List Rq) (id kd bk wt an:Int) (w:World) (h:BkAt B w p v1 v2 L R) (h12:L.length≤12) (hr:(0≤bk∧bk≤11)∧(1≤wt∧wt≤8)) (he:aQ (cE bk) L=-1) :
  Calls Tryz.prog 107 #[.pointer (some ⟨p,0,none⟩),.agg #[.int .i64 id,.int .i64 kd,.int .i64 bk,.int .i64 wt,.int .i64 an]] w (iP B w p v2 (eo L (nB L bk) ⟨bk,1,wt,0,0,0⟩) R 0):=by
 have H:=Hu h;have lp:=h.lt;have hB:=h.hB;have K0:=Hu (h.below (((Hv w.heap.size w).alloc (I3 _) (.cells #[.int .i64 id,.int .i64 kd,.int .i64 bk,.int .i64 wt,.int .i64 an] 148)).alloc (by simp) (.cells #[.int .i64 bk,.int .i64 1,.int .i64 wt,.int .i64 0,.int .i64 0,.int .i64 0] 94)));have B0:=Hu (((Hv B w).alloc (by omega) (.cells #[.int .i64 id,.int .i64 kd,.int .i64 bk,.int .i64 wt,.int .i64 an] 148)).alloc (by simp;omega) (.cells #[.int .i64 bk,.int .i64 1,.int .i64 wt,.int .i64 0,.int .i64 0,.int .i64 0] 94))
 obtain ⟨a,cap,rfl,_,_⟩:=aC h.o1
 have HV:Hid (jR (.slice a L.length cap) (aQ (cE bk) L)=.pointer none):=by show jR _ _=_;rw [he];cases a<;>simp [jR]
 obtain ⟨⟨r0,r1⟩,r2,r3⟩:=hr
 have hlm:(L.length:Int)≤12:=by omega
 clear h he
 go_enter Tryz.func107,Tryz.ntmps107
 go_wp2_with fail
 refine (dP B p _ v2 L R bk _ K0.out h12).mono ?_
 rintro e w2 ⟨rfl,hb2⟩
 rw [HV.out]
 have hy2:=hb2.size
 simp at hy2
 have K2:=Hu (K0.out.below hb2)
 have B2:=Hu (B0.out.trans (hb2.mono (by simp;omega)))
 have xx:=Hu (aj hb2 (az (w:=w.alloc (.cells #[.int .i64 id,.int .i64 kd,.int .i64 bk,.int .i64 wt,.int .i64 an] 148)) (k:=w.heap.size+1) (.cells #[.int .i64 bk,.int .i64 1,.int .i64 wt,.int .i64 0,.int .i64 0,.int .i64 0] 94) (by simp)) (by simp))
 have xr:=Hu (aj hb2 ((Hz (w:=World.alloc w _) (.cells #[.int .i64 bk,.int .i64 1,.int .i64 wt,.int .i64 0,.int .i64 0,.int .i64 0] 94) w.heap.size (by simp)).trans (az (w:=w) (.cells #[.int .i64 id,.int .i64 kd,.int .i64 bk,.int .i64 wt,.int .i64 an] 148) rfl)) (by simp;omega))
 clear hb2
 go_wp2_with fail
 go_loopw [7] (fun i wr=>∃ k:Nat,k≤nB L bk∧i=.int .i64 k∧Below w2.heap.size w2 wr) (fun i _=>L.length - (intOf i).toNat)
 case atStart=>exact ⟨0,I4 _,rfl,Hv _ _⟩
 case round=>
  obtain ⟨k,hk,rfl,hbr⟩:=hrel;have HBr:=Hu hbr;have KR:=Hu (K2.out.below hbr);have BR:=Hu (B2.out.trans (hbr.mono (by have:=K2.out.lt;omega)));have sR:=hbr.size;have c0:=ae KR.out.hh 0;have f0:=ap KR.out.hh 0;have lpr:=KR.out.lt;simp at c0;have hrr:=aj hbr xr.out (by omega);have hrx:=aj hbr xx.out (by omega);have d2:=ae hrr 2;have x0:=ae hrx 0;have x1:=ae hrx 1;have x2:=ae hrx 2;have x3:=ae hrx 3;have x4:=ae hrx 4;have x5:=ae hrx 5;simp at d2 x0 x1 x2 x3 x4 x5;have hpl:=qi L bk;clear hbr hrr hrx;rcases (show k<L.length∨L.length=k by omega) with hlt|heq
  ·have hlt':(k:Int)<(L.length:Int):=by omega
   obtain ⟨g,cap',hgv,hg1,hg2⟩:=KR.out.addr hlt;simp only [Value.slice.injEq] at hgv;obtain ⟨rfl,_,rfl⟩:=hgv;have q0:=(KR.out.cell hlt (j:=0) (by omega)).1;obtain ⟨s,hs⟩:∃ s,s=L.getD k Lf.zero:=⟨_,rfl⟩;rw [← hs] at q0;have HSg:=Hu hs;obtain ⟨y0,y1,y2,y3,y4,y5⟩:=s;simp [Lf.cells] at q0;clear hs;by_cases hy:y0<bk
   ·have hkp:k+1≤nB L bk:=by
     rcases Nat.lt_or_ge k (nB L bk) with h|h
     ·exact h
     ·have e:nB L bk=k:=by omega
      have:=plN_at (L:=L) (b:=bk) (by omega);rw [e,← HSg.out] at this;exact absurd hy this
    go_wp2_with fail;go_quiet (fail);go_wp2;go_roundw
    case rel=>exact ⟨k+1,hkp,by go_num,aJ HBr.out⟩
    case measure=>simp [intOf];omega
   ·have hkp:k=nB L bk:=by
     rcases Nat.lt_or_ge k (nB L bk) with h|h
     ·have:=plN_lt (L:=L) (b:=bk) h;rw [← HSg.out] at this;exact absurd this hy
     ·omega
    have hy3:decide (y0<bk)=false:=by simpa using hy
    have HKp:=Hu hkp;clear hkp;go_wp2_with fail;go_quiet (fail);have KZ0:BkAt B (wr.drewN nq) p (.slice (some ⟨g,0,none⟩) L.length cap) v2 L R:=KR.out.below (aJ (Hv _ _));have BZ0:Below B w (wr.drewN nq):=aJ BR.out;have zc0:(wr.drewN nq).cell? ⟨p,0,none⟩=some (.slice (some ⟨g,0,none⟩) L.length cap):=c0;have zf0:(wr.drewN nq).frozen? ⟨p,0,none⟩=false:=f0;have zx0:(wr.drewN nq).cell? ⟨w.heap.size+1,0,none⟩=some (.int .i64 bk):=x0;have zx1:(wr.drewN nq).cell? ⟨w.heap.size+1,1,none⟩=some (.int .i64 1):=x1;have zx2:(wr.drewN nq).cell? ⟨w.heap.size+1,2,none⟩=some (.int .i64 wt):=x2;have zx3:(wr.drewN nq).cell? ⟨w.heap.size+1,3,none⟩=some (.int .i64 0):=x3;have zx4:(wr.drewN nq).cell? ⟨w.heap.size+1,4,none⟩=some (.int .i64 0):=x4;have zx5:(wr.drewN nq).cell? ⟨w.heap.size+1,5,none⟩=some (.int .i64 0):=x5;have zl:p<(wr.drewN nq).heap.size:=lpr
    have zs:w.heap.size+1<(wr.drewN nq).heap.size:=by show _<wr.heap.size;omega
    have KZ:=Hu KZ0;have BZ:=Hu BZ0;clear KZ0 BZ0 c0 f0 x0 x1 x2 x3 x4 x5 d2 q0;go_wp2_with fail;generalize wr.drewN nq=wz at KZ BZ zc0 zf0 zx0 zx1 zx2 zx3 zx4 zx5 zl zs ⊢;have hk:k=nB L bk:=HKp.out
    have HIns:Hid (Calls Tryz.prog 143 #[.slice (some ⟨g,0,none⟩) L.length cap,.int .i64 (k:Int),.slice (some ⟨wz.heap.size,0,none⟩) 1 1] (wz.alloc (.cells #[.int .i64 bk,.int .i64 1,.int .i64 wt,.int .i64 0,.int .i64 0,.int .i64 0] 94)).drew fun e w5=>∃ (a':Option Addr) (cap':Nat),e=.returned (.slice a' (L.length+1) cap')∧w5.cell? ⟨p,0,none⟩=some (.slice (some ⟨g,0,none⟩) L.length cap)∧w5.frozen? ⟨p,0,none⟩=false∧(w5.cell? ⟨w.heap.size+1,0,none⟩=some (.int .i64 bk)∧w5.cell? ⟨w.heap.size+1,1,none⟩=some (.int .i64 1)∧w5.cell? ⟨w.heap.size+1,2,none⟩=some (.int .i64 wt)∧w5.cell? ⟨w.heap.size+1,3,none⟩=some (.int .i64 0)∧w5.cell? ⟨w.heap.size+1,4,none⟩=some (.int .i64 0)∧w5.cell? ⟨w.heap.size+1,5,none⟩=some (.int .i64 0))∧Hid (w5.heap[p]?=some (.cells #[.slice (some ⟨g,0,none⟩) L.length cap,v2] 223 (0,0))∧w5.ownsRow B 94 6 (.slice a' (L.length+1) cap') (L.length+1) ((eo L (nB L bk) ⟨bk,1,wt,0,0,0⟩).map Lf.cells).flatten∧w5.ownsRow B 148 5 v2 R.length (R.map Rq.cells).flatten∧Below B w w5)):=by
     have KW:BkAt B (wz.alloc (.cells #[.int .i64 bk,.int .i64 1,.int .i64 wt,.int .i64 0,.int .i64 0,.int .i64 0] 94)).drew p (.slice (some ⟨g,0,none⟩) L.length cap) v2 L R:=KZ.out.below (((Hv wz.heap.size wz).alloc (I3 _) _).drew);have lpw:=KZ.out.lt
     have hkl:k≤L.length:=by rw [hk];exact qi L bk
     have:=He B (.slice (some ⟨g,0,none⟩) L.length cap) (L.map Lf.cells) k wz.heap.size (Lf.cells ⟨bk,1,wt,0,0,0⟩) (wz.alloc (.cells #[.int .i64 bk,.int .i64 1,.int .i64 wt,.int .i64 0,.int .i64 0,.int .i64 0] 94)).drew (by rw [I9];exact KW.o1) (j5 L) (zq L) rfl (by intro u hu;simp [Lf.cells] at hu;rcases hu with rfl|rfl|rfl|rfl<;>rfl) (by rw [I9];exact hkl) (by rw [I9];omega) (az (w:=wz) _ rfl) (fun e=>by have:=(KZ.out.o1.lt _ e).2;omega) (by have:=KZ.out.hB;show B≤_;simp;omega);refine this.mono ?_;rintro e w5 ⟨v',rfl,ho,hg⟩;rw [I9] at ho;obtain ⟨a',cap',rfl,_,_⟩:=aC ho
     have np:some p≠(Value.slice (some ⟨g,0,none⟩) L.length cap).ownBlock:=fun e=>by have:=KZ.out.l1 p e.symm;omega
     have h5:w5.heap[p]?=some (.cells #[.slice (some ⟨g,0,none⟩) L.length cap,v2] 223 (0,0)):=(hg.block p (by simp;omega) np).trans KW.hh;refine ⟨a',cap',rfl,by rw [ae h5];rfl,ap h5 0,?_,h5,by rw [vK,← hk];exact ho,?_,?_⟩
     ·have nx:some (w.heap.size+1)≠(Value.slice (some ⟨g,0,none⟩) L.length cap).ownBlock:=fun e=>by have:=KZ.out.l1 _ e.symm;omega
      exact Q39
     ·exact Q78
     ·exact Q59
    exact Q10
  ·have hge:¬ (k:Int)<(L.length:Int):=by omega
   have HKp:Hid (k=nB L bk):=by show k=_;omega
   have hgeN:¬ k<L.length:=by omega
   have hgeL:L.length≤k:=by omega
   have hgeD:decide ((k:Int)<(L.length:Int))=false:=by simpa using hgeN
   clear heq;go_wp2_with fail;go_quiet (fail);have KZ0:BkAt B (wr.drewN nq) p (.slice a L.length cap) v2 L R:=KR.out.below (aJ (Hv _ _));have BZ0:Below B w (wr.drewN nq):=aJ BR.out;have zc0:(wr.drewN nq).cell? ⟨p,0,none⟩=some (.slice a L.length cap):=c0;have zf0:(wr.drewN nq).frozen? ⟨p,0,none⟩=false:=f0;have zx0:(wr.drewN nq).cell? ⟨w.heap.size+1,0,none⟩=some (.int .i64 bk):=x0;have zx1:(wr.drewN nq).cell? ⟨w.heap.size+1,1,none⟩=some (.int .i64 1):=x1;have zx2:(wr.drewN nq).cell? ⟨w.heap.size+1,2,none⟩=some (.int .i64 wt):=x2;have zx3:(wr.drewN nq).cell? ⟨w.heap.size+1,3,none⟩=some (.int .i64 0):=x3;have zx4:(wr.drewN nq).cell? ⟨w.heap.size+1,4,none⟩=some (.int .i64 0):=x4;have zx5:(wr.drewN nq).cell? ⟨w.heap.size+1,5,none⟩=some (.int .i64 0):=x5;have zl:p<(wr.drewN nq).heap.size:=lpr
   have zs:w.heap.size+1<(wr.drewN nq).heap.size:=by show _<wr.heap.size;omega
   have KZ:=Hu KZ0;have BZ:=Hu BZ0;clear KZ0 BZ0 c0 f0 x0 x1 x2 x3 x4 x5 d2 hge hgeN hgeL hgeD;go_wp2_with fail;generalize wr.drewN nq=wz at KZ BZ zc0 zf0 zx0 zx1 zx2 zx3 zx4 zx5 zl zs ⊢;have hk:k=nB L bk:=HKp.out
   have HIns:Hid (Calls Tryz.prog 143 #[.slice a L.length cap,.int .i64 (k:Int),.slice (some ⟨wz.heap.size,0,none⟩) 1 1] (wz.alloc (.cells #[.int .i64 bk,.int .i64 1,.int .i64 wt,.int .i64 0,.int .i64 0,.int .i64 0] 94)).drew fun e w5=>∃ (a':Option Addr) (cap':Nat),e=.returned (.slice a' (L.length+1) cap')∧w5.cell? ⟨p,0,none⟩=some (.slice a L.length cap)∧w5.frozen? ⟨p,0,none⟩=false∧(w5.cell? ⟨w.heap.size+1,0,none⟩=some (.int .i64 bk)∧w5.cell? ⟨w.heap.size+1,1,none⟩=some (.int .i64 1)∧w5.cell? ⟨w.heap.size+1,2,none⟩=some (.int .i64 wt)∧w5.cell? ⟨w.heap.size+1,3,none⟩=some (.int .i64 0)∧w5.cell? ⟨w.heap.size+1,4,none⟩=some (.int .i64 0)∧w5.cell? ⟨w.heap.size+1,5,none⟩=some (.int .i64 0))∧Hid (w5.heap[p]?=some (.cells #[.slice a L.length cap,v2] 223 (0,0))∧w5.ownsRow B 94 6 (.slice a' (L.length+1) cap') (L.length+1) ((eo L (nB L bk) ⟨bk,1,wt,0,0,0⟩).map Lf.cells).flatten∧w5.ownsRow B 148 5 v2 R.length (R.map Rq.cells).flatten∧Below B w w5)):=by
    have KW:BkAt B (wz.alloc (.cells #[.int .i64 bk,.int .i64 1,.int .i64 wt,.int .i64 0,.int .i64 0,.int .i64 0] 94)).drew p (.slice a L.length cap) v2 L R:=KZ.out.below (((Hv wz.heap.size wz).alloc (I3 _) _).drew);have lpw:=KZ.out.lt
    have hkl:k≤L.length:=by rw [hk];exact qi L bk
    have:=He B (.slice a L.length cap) (L.map Lf.cells) k wz.heap.size (Lf.cells ⟨bk,1,wt,0,0,0⟩) (wz.alloc (.cells #[.int .i64 bk,.int .i64 1,.int .i64 wt,.int .i64 0,.int .i64 0,.int .i64 0] 94)).drew (by rw [I9];exact KW.o1) (j5 L) (zq L) rfl (by intro u hu;simp [Lf.cells] at hu;rcases hu with rfl|rfl|rfl|rfl<;>rfl) (by rw [I9];exact hkl) (by rw [I9];omega) (az (w:=wz) _ rfl) (fun e=>by have:=(KZ.out.o1.lt _ e).2;omega) (by have:=KZ.out.hB;show B≤_;simp;omega);refine this.mono ?_;rintro e w5 ⟨v',rfl,ho,hg⟩;rw [I9] at ho;obtain ⟨a',cap',rfl,_,_⟩:=aC ho
    have np:some p≠(Value.slice a L.length cap).ownBlock:=fun e=>by have:=KZ.out.l1 p e.symm;omega
    have h5:w5.heap[p]?=some (.cells #[.slice a L.length cap,v2] 223 (0,0)):=(hg.block p (by simp;omega) np).trans KW.hh;refine ⟨a',cap',rfl,by rw [ae h5];rfl,ap h5 0,?_,h5,by rw [vK,← hk];exact ho,?_,?_⟩
    ·have nx:some (w.heap.size+1)≠(Value.slice a L.length cap).ownBlock:=fun e=>by have:=KZ.out.l1 _ e.symm;omega
     exact Q39
    ·exact Q78
    ·exact Q59
   exact Q10
theorem rr (B p:Nat) (v1 v2:Value) (L:List Lf) (R:List Rq) (id kd bk wt an now drain:Int) (w:World) (h:BkAt B w p v1 v2 L R) (h12:L.length≤12) (he:aQ (cE bk) L=-1) :
  Calls Tryz.prog 108 #[.pointer (some ⟨p,0,none⟩),.agg #[.int .i64 id,.int .i64 kd,.int .i64 bk,.int .i64 wt,.int .i64 an],.int .i64 now,.int .i64 drain] w (iP B w p v2 L R 8):=by
 have H:=Hu h;have lp:=h.lt;have hB:=h.hB;have K0:=Hu (h.below ((Hv w.heap.size w).alloc (I3 _) (.cells #[.int .i64 id,.int .i64 kd,.int .i64 bk,.int .i64 wt,.int .i64 an] 148)));have B0:=Hu ((Hv B w).alloc (by omega) (.cells #[.int .i64 id,.int .i64 kd,.int .i64 bk,.int .i64 wt,.int .i64 an] 148))
 obtain ⟨a,cap,rfl,_,_⟩:=aC h.o1
 have HV:Hid (jR (.slice a L.length cap) (aQ (cE bk) L)=.pointer none):=by show jR _ _=_;rw [he];cases a<;>simp [jR]
 clear h he
 go_enter Tryz.func108,Tryz.ntmps108
 go_wp2_with fail
 refine (dP B p _ v2 L R bk _ K0.out h12).mono ?_
 rintro e w2 ⟨rfl,hb2⟩
 rw [HV.out]
 have K2:=Hu (K0.out.below hb2)
 have B2:=Hu (B0.out.trans (hb2.mono (by simp;omega)))
 clear hb2
 go_wp2
 all_goals first|(go_ret;exact ⟨rfl,⟨_,K2.out.o⟩,B2.out⟩)|exact Zx
theorem o9 (B p:Nat) (v1 v2:Value) (L:List Lf) (R:List Rq) (id kd bk wt an now drain:Int) (i:Nat) (ans:Int) (w:World) (h:BkAt B w p v1 v2 L R) (h12:L.length≤12) (hi:i<L.length) (he:aQ (cE bk) L=i) (hs:((L.getD i Lf.zero).state=4∧ans=8)∨((L.getD i Lf.zero).state=3∧ans=12)) :
  Calls Tryz.prog 108 #[.pointer (some ⟨p,0,none⟩),.agg #[.int .i64 id,.int .i64 kd,.int .i64 bk,.int .i64 wt,.int .i64 an],.int .i64 now,.int .i64 drain] w (iP B w p v2 L R ans):=by
 have H:=Hu h;have lp:=h.lt;have hB:=h.hB;have K0:=Hu (h.below ((Hv w.heap.size w).alloc (I3 _) (.cells #[.int .i64 id,.int .i64 kd,.int .i64 bk,.int .i64 wt,.int .i64 an] 148)));have B0:=Hu ((Hv B w).alloc (by omega) (.cells #[.int .i64 id,.int .i64 kd,.int .i64 bk,.int .i64 wt,.int .i64 an] 148))
 obtain ⟨g,cap,rfl,hg1,hg2⟩:=h.addr hi
 have HV:Hid (jR (.slice (some ⟨g,0,none⟩) L.length cap) (aQ (cE bk) L)=.pointer (some ⟨g,i*6,none⟩)):=by show jR _ _=_;rw [he];simp [jR]
 obtain ⟨s,hs'⟩:∃ s,s=L.getD i Lf.zero:=⟨_,rfl⟩
 rw [← hs'] at hs
 have HS:=Hu hs'
 obtain ⟨c0,c1,c2,c3,c4,c5⟩:=s
 simp only at hs
 clear h hs' he
 rcases hs with ⟨rfl,rfl⟩|⟨rfl,rfl⟩
 all_goals
  go_enter Tryz.func108,Tryz.ntmps108
  go_wp2_with fail
  refine (dP B p _ v2 L R bk _ K0.out h12).mono ?_
  rintro e w2 ⟨rfl,hb2⟩
  rw [HV.out]
  have hy2:=hb2.size
  simp at hy2
  have K2:=Hu (K0.out.below hb2)
  have B2:=Hu (B0.out.trans (hb2.mono (by simp;omega)))
  have q1:=(K2.out.cell hi (j:=1) (by omega)).1
  rw [← HS.out] at q1
  simp [Lf.cells] at q1
  clear hb2
  go_wp2
  all_goals first|(go_ret;exact ⟨rfl,⟨_,K2.out.o⟩,B2.out⟩)|exact Zx
theorem BkAt.three {B:Nat} {w:World} {p g cap:Nat} {v2:Value} {L:List Lf} {R:List Rq} {i:Nat} (h:BkAt B w p (.slice (some ⟨g,0,none⟩) L.length cap) v2 L R) (hi:i<L.length) (b e f:Int) :
  BkAt B (((w.setCell ⟨g,i*6+1,none⟩ (.int .i64 b)).setCell ⟨g,i*6+4,none⟩ (.int .i64 e)).setCell ⟨g,i*6+5,none⟩ (.int .i64 f)) p (.slice (some ⟨g,0,none⟩) L.length cap) v2 (L.set i { L.getD i Lf.zero with state:=b,until_:=e,request:=f }) R:=by
 obtain ⟨s,hs⟩:∃ s,s=L.getD i Lf.zero:=⟨_,rfl⟩
 rw [← hs]
 obtain ⟨x0,x1,x2,x3,x4,x5⟩:=s
 have gd:∀ (M:List Lf) (y:Lf),M.length=L.length→(M.set i y).getD i Lf.zero=y:=fun M y hM=>by simp [List.getD,hM,hi]
 have k1:=BkAt.field (j:=1) (v:=.int .i64 b) (x:=⟨x0,b,x2,x3,x4,x5⟩) h hi (by omega) (by rw [← hs];rfl)
 have k4:=BkAt.field (j:=4) (v:=.int .i64 e) (x:=⟨x0,b,x2,x3,e,x5⟩) (L:=L.set i ⟨x0,b,x2,x3,x4,x5⟩) (by rw [Ig];exact k1) (by rw [Ig];exact hi) (by omega) (by rw [gd _ _ rfl];rfl)
 rw [List.set_set,Ig] at k4
 have k5:=BkAt.field (j:=5) (v:=.int .i64 f) (x:=⟨x0,b,x2,x3,e,f⟩) (L:=L.set i ⟨x0,b,x2,x3,e,x5⟩) (by rw [Ig];exact k4) (by rw [Ig];exact hi) (by omega) (by rw [gd _ _ rfl];rfl)
 rw [List.set_set,Ig] at k5
 exact k5
theorem tz (B p:Nat) (v1 v2:Value) (L:List Lf) (R:List Rq) (id kd bk wt an now drain:Int) (i:Nat) (w:World) (h:BkAt B w p v1 v2 L R) (h12:L.length≤12) (hnd:(0≤now∧now≤1099511627776)∧(0≤drain∧drain≤500)) (hi:i<L.length) (he:aQ (cE bk) L=i) (hs:(L.getD i Lf.zero).state≠4∧(L.getD i Lf.zero).state≠3) :
  Calls Tryz.prog 108 #[.pointer (some ⟨p,0,none⟩),.agg #[.int .i64 id,.int .i64 kd,.int .i64 bk,.int .i64 wt,.int .i64 an],.int .i64 now,.int .i64 drain] w (iP B w p v2 (L.set i (jl (L.getD i Lf.zero) ⟨id,kd,bk,wt,an⟩ now drain)) R 0):=by
 have H:=Hu h;have lp:=h.lt;have hB:=h.hB;have K0:=Hu (h.below ((Hv w.heap.size w).alloc (I3 _) (.cells #[.int .i64 id,.int .i64 kd,.int .i64 bk,.int .i64 wt,.int .i64 an] 148)));have B0:=Hu ((Hv B w).alloc (by omega) (.cells #[.int .i64 id,.int .i64 kd,.int .i64 bk,.int .i64 wt,.int .i64 an] 148))
 obtain ⟨g,cap,rfl,hg1,hg2⟩:=h.addr hi
 have HV:Hid (jR (.slice (some ⟨g,0,none⟩) L.length cap) (aQ (cE bk) L)=.pointer (some ⟨g,i*6,none⟩)):=by show jR _ _=_;rw [he];simp [jR]
 have HSet:Hid (∀ (w':World) (b:Int),b=(if (L.getD i Lf.zero).state=1 then 4 else 3)→BkAt B w' p (.slice (some ⟨g,0,none⟩) L.length cap) v2 L R→BkAt B (((w'.setCell ⟨g,i*6+1,none⟩ (.int .i64 b)).setCell ⟨g,i*6+4,none⟩ (.int .i64 (now+drain))).setCell ⟨g,i*6+5,none⟩ (.int .i64 id)) p (.slice (some ⟨g,0,none⟩) L.length cap) v2 (L.set i (jl (L.getD i Lf.zero) ⟨id,kd,bk,wt,an⟩ now drain)) R):=fun w' b hb hk=>by
  have:=hk.three hi b (now+drain) id;rw [hb] at this ⊢;exact this
 obtain ⟨s,hs'⟩:∃ s,s=L.getD i Lf.zero:=⟨_,rfl⟩
 rw [← hs'] at hs HSet
 have HS:=Hu hs'
 obtain ⟨c0,c1,c2,c3,c4,c5⟩:=s
 simp only at hs
 obtain ⟨n4,n3⟩:=hs
 obtain ⟨⟨r0,r1⟩,r2,r3⟩:=hnd
 have hlr:Hid (jl (L.getD i Lf.zero) ⟨id,kd,bk,wt,an⟩ now drain=jl ⟨c0,c1,c2,c3,c4,c5⟩ ⟨id,kd,bk,wt,an⟩ now drain):=by show _=_;rw [hs']
 rw [hlr.out]
 clear h hs' he
 by_cases n1:c1=1
 ·subst n1;go_enter Tryz.func108,Tryz.ntmps108;go_wp2_with fail;refine (dP B p _ v2 L R bk _ K0.out h12).mono ?_;rintro e w2 ⟨rfl,hb2⟩;rw [HV.out];have hy2:=hb2.size;simp at hy2;have K2:=Hu (K0.out.below hb2);have B2:=Hu (B0.out.trans (hb2.mono (by simp;omega)));have xr:=aj hb2 (az (w:=w) (.cells #[.int .i64 id,.int .i64 kd,.int .i64 bk,.int .i64 wt,.int .i64 an] 148) rfl) (by simp);have d0:=ae xr 0;simp at d0;have q1:=(K2.out.cell hi (j:=1) (by omega)).1;have q4:=(K2.out.cell hi (j:=4) (by omega)).1;have q5:=(K2.out.cell hi (j:=5) (by omega)).1;have f1:=(K2.out.cell hi (j:=1) (by omega)).2;have f4:=(K2.out.cell hi (j:=4) (by omega)).2;have f5:=(K2.out.cell hi (j:=5) (by omega)).2;rw [← HS.out] at q1 q4 q5;simp [Lf.cells] at q1 q4 q5;have lg:g<w2.heap.size:=bR q1;have ng:g<w.heap.size:=by omega
  have ngw:w.heap.size≠g:=by omega
  have lw2:w.heap.size<w2.heap.size:=by omega
  clear hb2 xr;have KF:=Hu (HSet.out w2 4 rfl K2.out);have BF:=Hu (((B2.out.setCell (p:=⟨g,i*6+1,none⟩) hg1 (.int .i64 4)).setCell (p:=⟨g,i*6+4,none⟩) hg1 (.int .i64 (now+drain))).setCell (p:=⟨g,i*6+5,none⟩) hg1 (.int .i64 id));exact Q82
 ·have e1:(c1 == 1)=false:=by simpa using n1
  have e3:(c1 == 3)=false:=by simpa using n3
  have e4:(c1 == 4)=false:=by simpa using n4
  go_enter Tryz.func108,Tryz.ntmps108;go_wp2_with fail;refine (dP B p _ v2 L R bk _ K0.out h12).mono ?_;rintro e w2 ⟨rfl,hb2⟩;rw [HV.out];have hy2:=hb2.size;simp at hy2;have K2:=Hu (K0.out.below hb2);have B2:=Hu (B0.out.trans (hb2.mono (by simp;omega)));have xr:=aj hb2 (az (w:=w) (.cells #[.int .i64 id,.int .i64 kd,.int .i64 bk,.int .i64 wt,.int .i64 an] 148) rfl) (by simp);have d0:=ae xr 0;simp at d0;have q1:=(K2.out.cell hi (j:=1) (by omega)).1;have q4:=(K2.out.cell hi (j:=4) (by omega)).1;have q5:=(K2.out.cell hi (j:=5) (by omega)).1;have f1:=(K2.out.cell hi (j:=1) (by omega)).2;have f4:=(K2.out.cell hi (j:=4) (by omega)).2;have f5:=(K2.out.cell hi (j:=5) (by omega)).2;rw [← HS.out] at q1 q4 q5;simp [Lf.cells] at q1 q4 q5;have lg:g<w2.heap.size:=bR q1;have ng:g<w.heap.size:=by omega
  have ngw:w.heap.size≠g:=by omega
  have lw2:w.heap.size<w2.heap.size:=by omega
  clear hb2 xr;have KF:=Hu (HSet.out w2 3 (by rw [if_neg n1]) K2.out);have BF:=Hu (((B2.out.setCell (p:=⟨g,i*6+1,none⟩) hg1 (.int .i64 3)).setCell (p:=⟨g,i*6+4,none⟩) hg1 (.int .i64 (now+drain))).setCell (p:=⟨g,i*6+5,none⟩) hg1 (.int .i64 id));exact Q82
theorem Ar (B p:Nat) (v1 v2:Value) (L:List Lf) (R:List Rq) (id kd bk wt an:Int) (L':List Lf) (ans:Int) (w:World) (h:BkAt B w p v1 v2 L R) (h12:L.length≤12) (hA:xt L ⟨id,kd,bk,wt,an⟩ L' ans) :
  Calls Tryz.prog 107 #[.pointer (some ⟨p,0,none⟩),.agg #[.int .i64 id,.int .i64 kd,.int .i64 bk,.int .i64 wt,.int .i64 an]] w (iP B w p v2 L' R ans):=by
 rcases hA with ⟨hr,rfl,rfl⟩|⟨hr,⟨i,hi,he,hs⟩,rfl,rfl⟩|⟨hr,⟨i,hi,he,hs,rfl⟩,rfl⟩|⟨hr,he,rfl,rfl⟩
 ·exact ru B p v1 v2 _ R id kd bk wt an w h hr
 ·exact oK B p v1 v2 _ R id kd bk wt an i w h h12 hr hi he hs
 ·exact rs B p v1 v2 L R id kd bk wt an i w h h12 hr hi he hs
 ·exact rt B p v1 v2 L R id kd bk wt an w h h12 hr he
theorem uW (B p:Nat) (v1 v2:Value) (L:List Lf) (R:List Rq) (id kd bk wt an now drain:Int) (L':List Lf) (ans:Int) (w:World) (h:BkAt B w p v1 v2 L R) (h12:L.length≤12) (hnd:(0≤now∧now≤1099511627776)∧(0≤drain∧drain≤500)) (hA:xn L ⟨id,kd,bk,wt,an⟩ now drain L' ans) :
  Calls Tryz.prog 108 #[.pointer (some ⟨p,0,none⟩),.agg #[.int .i64 id,.int .i64 kd,.int .i64 bk,.int .i64 wt,.int .i64 an],.int .i64 now,.int .i64 drain] w (iP B w p v2 L' R ans):=by
 rcases hA with ⟨he,rfl,rfl⟩|⟨⟨i,hi,he,hs⟩,rfl,rfl⟩|⟨⟨i,hi,he,hs⟩,rfl,rfl⟩|⟨i,hi,he,hs,rfl,rfl⟩
 ·exact rr B p v1 v2 _ R id kd bk wt an now drain w h h12 he
 ·exact o9 B p v1 v2 _ R id kd bk wt an now drain i 8 w h h12 hi he (Or.inl ⟨hs,rfl⟩)
 ·exact o9 B p v1 v2 _ R id kd bk wt an now drain i 12 w h h12 hi he (Or.inr ⟨hs,rfl⟩)
 ·exact tz B p v1 v2 L R id kd bk wt an now drain i w h h12 hnd hi he hs
def jK (w:World) (L':List Lf) (R':List Rq) (ans:Int) (nw:Bool) (code:Int) (e:Ending) (w':World):Prop:=∃ v1 v2,e=.returned (.tuple #[.agg #[v1,v2],.int .i64 ans,.bool nw,.int .i64 code])∧aM w.heap.size w' 6 v1 (L'.map Lf.cells)∧aM w.heap.size w' 5 v2 (R'.map Rq.cells)∧Below w.heap.size w w'
def RqQ (x:Rq) (q:Bool):Prop:=(fJ x∧q=true)∨(¬ fJ x∧q=false)
def rh (r:Rq) (now drain:Int):Prop:=fJ r∧(0≤now∧now≤1099511627776)∧(0≤drain∧drain≤500)
theorem qe (vl vr:Value) (L:List Lf) (R:List Rq) (id kd bk wt an now drain:Int) (w:World) (hl:aI w 6 vl (L.map Lf.cells)) (hr:aI w 5 vr (R.map Rq.cells)) (h:¬ bF L R) :
  Calls Tryz.prog 65 #[.agg #[vl,vr],.agg #[.int .i64 id,.int .i64 kd,.int .i64 bk,.int .i64 wt,.int .i64 an],.int .i64 now,.int .i64 drain] w (jK w [] [] 0 false 6):=by
 have HL:=Hu hl
 have HR:=Hu hr
 have H:=Hu h
 obtain ⟨a,c,rfl,_⟩:=aq hl
 obtain ⟨a',c',rfl,_⟩:=aq hr
 clear hl hr h
 go_enter Tryz.func65,Tryz.ntmps65
 go_wp2_with fail
 refine (gJ _ _ L R _ (ai (ai (ai HL.out _) _) _) (ai (ai (ai HR.out _) _) _) H.out).mono ?_
 rintro e w1 ⟨rfl,hb1⟩
 have B1:=(((((Hv w.heap.size w).alloc (I3 _) (.cells #[.slice a L.length c,.slice a' R.length c'] 52)).alloc (by simp) (.cells #[.int .i64 id,.int .i64 kd,.int .i64 bk,.int .i64 wt,.int .i64 an] 148)).alloc Zs (.cells #[.slice none 0 0,.slice none 0 0] 52))).trans (hb1.mono Zs)
 have hN:=aj hb1 (az (w:=World.alloc (World.alloc w _) _) (k:=w.heap.size+1+1) (.cells #[.slice none 0 0,.slice none 0 0] 52) (by simp)) (by simp)
 have d0:=ae hN 0
 have d1:=ae hN 1
 have g0:=ap hN 0
 have g1:=ap hN 1
 have lN:=lt_of_block hN
 simp at d0 d1
 clear hb1 hN
 go_wp2
 refine Ix (v:=.tuple #[.agg #[.slice none 0 0,.slice none 0 0],.int .i64 0,.bool false,.int .i64 6]) ?_ rfl ⟨_,_,rfl,bD _ _ _,bD _ _ _,Zb⟩
 simp [results,Tryz.results65,go_sem, *]
theorem qh (vl vr:Value) (L:List Lf) (R:List Rq) (id kd bk wt an now drain:Int) (w:World) (hl:aI w 6 vl (L.map Lf.cells)) (hr:aI w 5 vr (R.map Rq.cells)) (h:bF L R) (hn:¬ rh ⟨id,kd,bk,wt,an⟩ now drain) :
  Calls Tryz.prog 65 #[.agg #[vl,vr],.agg #[.int .i64 id,.int .i64 kd,.int .i64 bk,.int .i64 wt,.int .i64 an],.int .i64 now,.int .i64 drain] w (jK w [] [] 0 false 2):=by
 have HL:=Hu hl
 have HR:=Hu hr
 have H:=Hu h
 obtain ⟨a,c,rfl,_⟩:=aq hl
 obtain ⟨a',c',rfl,_⟩:=aq hr
 have hcs:∃ q:Bool,RqQ ⟨id,kd,bk,wt,an⟩ q∧(q=false∨(q=true∧(now<0∨(0≤now∧1099511627776<now)∨((0≤now∧now≤1099511627776)∧drain<0)∨((0≤now∧now≤1099511627776)∧0≤drain∧500<drain)))):=by
  by_cases hq:fJ ⟨id,kd,bk,wt,an⟩
  ·refine ⟨true,Or.inl ⟨hq,rfl⟩,Or.inr ⟨rfl,?_⟩⟩;have h2:¬ ((0≤now∧now≤1099511627776)∧(0≤drain∧drain≤500)):=fun h=>hn ⟨hq,h⟩;omega
  ·exact ⟨false,Or.inr ⟨hq,rfl⟩,Or.inl rfl⟩
 obtain ⟨q,hq,hc⟩:=hcs
 have HQ:=Hu hq
 clear hl hr h hn hq
 rcases hc with rfl|⟨rfl,h0|⟨h0,h1⟩|⟨⟨h0,h1⟩,h2⟩|⟨⟨h0,h1⟩,h2,h3⟩⟩
 all_goals
  go_enter Tryz.func65,Tryz.ntmps65
  go_wp2_with fail;refine (cP _ _ L R _ (ai (ai (ai HL.out _) _) _) (ai (ai (ai HR.out _) _) _) H.out).mono ?_;rintro e w1 ⟨p,v1,v2,rfl,K1,hb1⟩
  have B1:=Hu ((((((Hv w.heap.size w).alloc (I3 _) (.cells #[.slice a L.length c,.slice a' R.length c'] 52)).alloc (by simp) (.cells #[.int .i64 id,.int .i64 kd,.int .i64 bk,.int .i64 wt,.int .i64 an] 148)).alloc Zs (.cells #[.slice none 0 0,.slice none 0 0] 52))).trans (hb1.mono Zs))
  have hN:=Hu (aj hb1 (az (w:=World.alloc (World.alloc w _) _) (k:=w.heap.size+1+1) (.cells #[.slice none 0 0,.slice none 0 0] 52) (by simp)) (by simp))
  have hR:=aj hb1 ((Hz (w:=World.alloc (World.alloc w _) _) (.cells #[.slice none 0 0,.slice none 0 0] 52) (w.heap.size+1) (by simp)).trans (az (w:=World.alloc w _) (k:=w.heap.size+1) (.cells #[.int .i64 id,.int .i64 kd,.int .i64 bk,.int .i64 wt,.int .i64 an] 148) (by simp))) Zs
  have d0:=ae hR 0
  have d1:=ae hR 1
  have d2:=ae hR 2
  have d3:=ae hR 3
  have d4:=ae hR 4
  have lN:=lt_of_block hN.out
  simp at d0 d1 d2 d3 d4
  clear hb1 hR K1
  go_wp2_with fail
  refine (eM _ _ _ _ _ _ _ HQ.out).mono ?_
  rintro e w2 ⟨rfl,hb2⟩
  have B2:=B1.out.trans (hb2.mono B1.out.size)
  have hN2:=aj hb2 hN.out lN
  have n0:=ae hN2 0
  have n1:=ae hN2 1
  have g0:=ap hN2 0
  have g1:=ap hN2 1
  have lN2:=lt_of_block hN2
  simp at n0 n1
  clear hb2 hN2
  go_wp2
  all_goals first|(refine Ix (v:=.tuple #[.agg #[.slice none 0 0,.slice none 0 0],.int .i64 0,.bool false,.int .i64 2]) ?_ rfl ⟨_,_,rfl,bD _ _ _,bD _ _ _,Zb⟩;simp [results,Tryz.results65,go_sem, *];done)|exact Zx
def jW (id:Int) (x:Rq):Bool:=x.id == id
theorem Gz (x:Rq) (b:Nat) (id:Int) (w:World) (h:w.cell? ⟨b,0,none⟩=some (.int .i64 id)):Calls Tryz.prog 106 #[Rq.agg x,.pointer (some ⟨b,0,none⟩)] w fun e w'=>e=.returned (.bool (jW id x))∧Below w.heap.size w w':=by
 obtain ⟨x0,x1,x2,x3,x4⟩:=x;have lb:=bR h;unfold Rq.agg jW;go_enter Tryz.func106,Tryz.ntmps106;go_wp2
 all_goals first|(go_ret;exact ⟨rfl,Zb⟩)|exact Zx
theorem BkAt.addr2 {B:Nat} {w:World} {p:Nat} {v1 v2:Value} {L:List Lf} {R:List Rq} (h:BkAt B w p v1 v2 L R) {i:Nat} (hi:i<R.length):∃ g cap,v2=.slice (some ⟨g,0,none⟩) R.length cap∧B≤g∧g<p:=by
 rcases h.o2.2 with ⟨_,h0⟩|⟨gg,cap,cur,e,h1,h2,_⟩
 ·omega
 ·exact ⟨gg,cap,e,h1,h.l2 gg (by rw [e];rfl)⟩
theorem BkAt.cell2 {B:Nat} {w:World} {p g n cap:Nat} {v1:Value} {L:List Lf} {R:List Rq} (h:BkAt B w p v1 (.slice (some ⟨g,0,none⟩) n cap) L R) {i j:Nat} (hi:i<R.length) (hj:j<5):w.cell? ⟨g,i*5+j,none⟩=((R.getD i Rq.zero).cells)[j]?:=by
 have h1:=h.o2
 have e:n=R.length:=by
  exact Q58
 subst e
 have hl:i*5+j<R.length*5:=by have:(i+1)*5≤R.length*5:=Ij _ (by omega);omega
 rw [h1.cellAt _ hl,fo (mz R) i j (by simpa using hi) hj];simp [List.getD,hi]
theorem tF (vl vr:Value) (L:List Lf) (R:List Rq) (id kd bk wt an now drain:Int) (q:Nat) (w:World) (hl:aI w 6 vl (L.map Lf.cells)) (hr:aI w 5 vr (R.map Rq.cells)) (h:bF L R) (hn:rh ⟨id,kd,bk,wt,an⟩ now drain) (hq:q<R.length) (he:aQ (jW id) R=q) :
  Calls Tryz.prog 65 #[.agg #[vl,vr],.agg #[.int .i64 id,.int .i64 kd,.int .i64 bk,.int .i64 wt,.int .i64 an],.int .i64 now,.int .i64 drain] w (jK w L R (R.getD q Rq.zero).answer false 0):=by
 have HL:=Hu hl;have HR:=Hu hr;have H:=Hu h;have hR100:=h.2.1;obtain ⟨a,c,rfl,_⟩:=aq hl;obtain ⟨a',c',rfl,_⟩:=aq hr;have HQ:Hid (RqQ ⟨id,kd,bk,wt,an⟩ true):=Or.inl ⟨hn.1,rfl⟩;obtain ⟨_,⟨h0,h1⟩,h2,h3⟩:=hn;clear hl hr h
 have HE:=Hu he
 obtain ⟨s,hs⟩:∃ s,s=R.getD q Rq.zero:=⟨_,rfl⟩
 rw [← hs]
 have HSg:=Hu hs
 obtain ⟨s0,s1,s2',s3,s4⟩:=s
 clear he hs
 go_enter Tryz.func65,Tryz.ntmps65
 go_wp2_with fail;refine (cP _ _ L R _ (ai (ai (ai HL.out _) _) _) (ai (ai (ai HR.out _) _) _) H.out).mono ?_;rintro e w1 ⟨p,v1,v2,rfl,K1,hb1⟩
 have B1:=Hu ((((((Hv w.heap.size w).alloc (I3 _) (.cells #[.slice a L.length c,.slice a' R.length c'] 52)).alloc (by simp) (.cells #[.int .i64 id,.int .i64 kd,.int .i64 bk,.int .i64 wt,.int .i64 an] 148)).alloc Zs (.cells #[.slice none 0 0,.slice none 0 0] 52))).trans (hb1.mono Zs));have hN:=Hu (aj hb1 (az (w:=World.alloc (World.alloc w _) _) (k:=w.heap.size+1+1) (.cells #[.slice none 0 0,.slice none 0 0] 52) (by simp)) (by simp));have hR:=Hu (aj hb1 ((Hz (w:=World.alloc (World.alloc w _) _) (.cells #[.slice none 0 0,.slice none 0 0] 52) (w.heap.size+1) (by simp)).trans (az (w:=World.alloc w _) (k:=w.heap.size+1) (.cells #[.int .i64 id,.int .i64 kd,.int .i64 bk,.int .i64 wt,.int .i64 an] 148) (by simp))) Zs);have K1':=Hu K1;have hBp:=K1.hB;have lp1:=K1.lt;simp at hBp;clear K1 hb1
 have d0:=ae hR.out 0;have d1:=ae hR.out 1;have d2:=ae hR.out 2;have d3:=ae hR.out 3;have d4:=ae hR.out 4;simp at d0 d1 d2 d3 d4
 go_wp2_with fail;refine (eM _ _ _ _ _ _ _ HQ.out).mono ?_;rintro e w2 ⟨rfl,hb2⟩
 have B2:=Hu (B1.out.trans (hb2.mono B1.out.size));have lN:=lt_of_block hN.out;have hN2:=Hu (aj hb2 hN.out lN);have hR2:=Hu (aj hb2 hR.out (lt_of_block hR.out));have K2:=Hu (K1'.out.below hb2);have s2:=hb2.size;clear hb2 d0 d1 d2 d3 d4;have p0:=ae K2.out.hh 0;have p1:=ae K2.out.hh 1;have lp2:=K2.out.lt;have r20:=ae hR2.out 0;have lr2:=lt_of_block hR2.out;simp at p0 p1 r20
 have RR2:=Hu K2.out.r2.1
 obtain ⟨g,cap,rfl,hg1,hg2⟩:=K2.out.addr2 hq
 obtain ⟨x1,y1,rfl,_⟩:=aC K2.out.o1
 simp at hg1
 go_wp2_with fail
 refine (kO 106 ⟨w.heap.size+1,0,none⟩ (fun _ _=>rfl) (jW id) _ R _ RR2.out (by omega) (fun x _ w' hb'=>Gz x _ id w' (aA hb' r20))).mono ?_
 rintro e w3 ⟨rfl,hb3⟩
 rw [HE.out]
 have K3:=Hu (K2.out.below hb3)
 have B3':=Hu (B2.out.trans (hb3.mono B2.out.size))
 have hN3:=aj hb3 hN2.out (lt_of_block hN2.out)
 have s3:=hb3.size
 have n0:=ae hN3 0
 have n1:=ae hN3 1
 have g0:=ap hN3 0
 have g1:=ap hN3 1
 have lN3:=lt_of_block hN3
 simp at n0 n1
 have p30:=ae K3.out.hh 0
 have p31:=ae K3.out.hh 1
 have lp3:=K3.out.lt
 simp at p30 p31
 have z4:=K3.out.cell2 hq (j:=4) (by omega)
 rw [← HSg.out] at z4
 simp [Rq.cells] at z4
 have hqi:(q:Int)<(R.length:Int):=by omega
 have hq0:(0:Int)≤(q:Int):=by omega
 have ne1:w.heap.size+1+1≠p:=by omega
 have ne2:w.heap.size+1+1≠g:=by omega
 clear hb3 hN3 p0 p1 r20 hR2 RR2
 go_wp2_with fail
 go_region
 all_goals go_wp2
 all_goals (refine Ix (v:=.tuple #[.agg #[.slice x1 L.length y1,.slice (some ⟨g,0,none⟩) R.length cap],.int .i64 s4,.bool false,.int .i64 0]) ?_ rfl ⟨_,_,rfl,aG (aB (aB K3.out.r1 (by simp) _) (by simp) _) (by first|omega|(simp;done)|(simp;omega)),aG (aB (aB K3.out.r2 (by simp) _) (by simp) _) (by first|omega|(simp;done)|(simp;omega)),((B3'.out.setCell (by simp;omega) _).setCell (by simp;omega) _).drew⟩;simp [results,Tryz.results65,go_sem, *])
theorem rC (vl vr:Value) (L:List Lf) (R:List Rq) (id kd bk wt an now drain:Int) (w:World) (hl:aI w 6 vl (L.map Lf.cells)) (hr:aI w 5 vr (R.map Rq.cells)) (h:bF L R) (hn:rh ⟨id,kd,bk,wt,an⟩ now drain) (he:aQ (jW id) R=-1) (hf:R.length=100) :
  Calls Tryz.prog 65 #[.agg #[vl,vr],.agg #[.int .i64 id,.int .i64 kd,.int .i64 bk,.int .i64 wt,.int .i64 an],.int .i64 now,.int .i64 drain] w (jK w L R 9 false 0):=by
 have HL:=Hu hl;have HR:=Hu hr;have H:=Hu h;have hR100:=h.2.1;obtain ⟨a,c,rfl,_⟩:=aq hl;obtain ⟨a',c',rfl,_⟩:=aq hr;have HQ:Hid (RqQ ⟨id,kd,bk,wt,an⟩ true):=Or.inl ⟨hn.1,rfl⟩;obtain ⟨_,⟨h0,h1⟩,h2,h3⟩:=hn;clear hl hr h
 have HE:=Hu he
 have HF:=Hu hf
 have hfe:((R.length:Int) == 100)=true:=by rw [beq_iff_eq];omega
 clear he hf
 go_enter Tryz.func65,Tryz.ntmps65
 go_wp2_with fail;refine (cP _ _ L R _ (ai (ai (ai HL.out _) _) _) (ai (ai (ai HR.out _) _) _) H.out).mono ?_;rintro e w1 ⟨p,v1,v2,rfl,K1,hb1⟩
 have B1:=Hu ((((((Hv w.heap.size w).alloc (I3 _) (.cells #[.slice a L.length c,.slice a' R.length c'] 52)).alloc (by simp) (.cells #[.int .i64 id,.int .i64 kd,.int .i64 bk,.int .i64 wt,.int .i64 an] 148)).alloc Zs (.cells #[.slice none 0 0,.slice none 0 0] 52))).trans (hb1.mono Zs));have hN:=Hu (aj hb1 (az (w:=World.alloc (World.alloc w _) _) (k:=w.heap.size+1+1) (.cells #[.slice none 0 0,.slice none 0 0] 52) (by simp)) (by simp));have hR:=Hu (aj hb1 ((Hz (w:=World.alloc (World.alloc w _) _) (.cells #[.slice none 0 0,.slice none 0 0] 52) (w.heap.size+1) (by simp)).trans (az (w:=World.alloc w _) (k:=w.heap.size+1) (.cells #[.int .i64 id,.int .i64 kd,.int .i64 bk,.int .i64 wt,.int .i64 an] 148) (by simp))) Zs);have K1':=Hu K1;have hBp:=K1.hB;have lp1:=K1.lt;simp at hBp;clear K1 hb1
 have d0:=ae hR.out 0;have d1:=ae hR.out 1;have d2:=ae hR.out 2;have d3:=ae hR.out 3;have d4:=ae hR.out 4;simp at d0 d1 d2 d3 d4
 go_wp2_with fail;refine (eM _ _ _ _ _ _ _ HQ.out).mono ?_;rintro e w2 ⟨rfl,hb2⟩
 have B2:=Hu (B1.out.trans (hb2.mono B1.out.size));have lN:=lt_of_block hN.out;have hN2:=Hu (aj hb2 hN.out lN);have hR2:=Hu (aj hb2 hR.out (lt_of_block hR.out));have K2:=Hu (K1'.out.below hb2);have s2:=hb2.size;clear hb2 d0 d1 d2 d3 d4;have p0:=ae K2.out.hh 0;have p1:=ae K2.out.hh 1;have lp2:=K2.out.lt;have r20:=ae hR2.out 0;have lr2:=lt_of_block hR2.out;simp at p0 p1 r20
 have RR2:=Hu K2.out.r2.1
 obtain ⟨x1,y1,rfl,_⟩:=aC K2.out.o1
 obtain ⟨x2,y2,rfl,_⟩:=aC K2.out.o2
 go_wp2_with fail
 refine (kO 106 ⟨w.heap.size+1,0,none⟩ (fun _ _=>rfl) (jW id) _ R _ RR2.out (by omega) (fun x _ w' hb'=>Gz x _ id w' (aA hb' r20))).mono ?_
 rintro e w3 ⟨rfl,hb3⟩
 rw [HE.out]
 have K3:=Hu (K2.out.below hb3)
 have B3':=Hu (B2.out.trans (hb3.mono B2.out.size))
 have hN3:=aj hb3 hN2.out (lt_of_block hN2.out)
 have s3:=hb3.size
 have n0:=ae hN3 0
 have n1:=ae hN3 1
 have g0:=ap hN3 0
 have g1:=ap hN3 1
 have lN3:=lt_of_block hN3
 simp at n0 n1
 have p30:=ae K3.out.hh 0
 have p31:=ae K3.out.hh 1
 have lp3:=K3.out.lt
 simp at p30 p31
 have ne1:w.heap.size+1+1≠p:=by omega
 clear hb3 hN3 p0 p1 r20 hR2 RR2
 go_wp2
 all_goals (refine Ix (v:=.tuple #[.agg #[.slice x1 L.length y1,.slice x2 R.length y2],.int .i64 9,.bool false,.int .i64 0]) ?_ rfl ⟨_,_,rfl,aG (aB (aB K3.out.r1 (by simp) _) (by simp) _) (by first|omega|(simp;done)|(simp;omega)),aG (aB (aB K3.out.r2 (by simp) _) (by simp) _) (by first|omega|(simp;done)|(simp;omega)),((B3'.out.setCell (by simp;omega) _).setCell (by simp;omega) _)⟩;simp [results,Tryz.results65,go_sem, *])
def oG (L:List Lf) (R:List Rq) (r:Rq) (now drain:Int) (L':List Lf) (R':List Rq) (ans:Int) (nw:Bool):Prop:=
 (∃ q:Nat,q<R.length∧aQ (jW r.id) R=q∧L'=L∧R'=R∧ans=(R.getD q Rq.zero).answer∧nw=false)∨
 (aQ (jW r.id) R=-1∧((R.length=100∧L'=L∧R'=R∧ans=9∧nw=false)∨(R.length≠100∧nw=true∧
  ((r.kind=1∧xt L r L' ans∧R'=R++[⟨r.id,1,r.backend,r.weight,ans⟩])∨
   (r.kind=2∧xn L ⟨r.id,2,r.backend,0,r.answer⟩ now drain L' ans∧R'=R++[⟨r.id,2,r.backend,0,ans⟩])))))
def ED (L:List Lf) (R:List Rq) (r:Rq) (now drain:Int) (L':List Lf) (R':List Rq) (ans:Int) (nw:Bool) (code:Int):Prop:=
 (¬ bF L R∧L'=[]∧R'=[]∧ans=0∧nw=false∧code=6)∨
 (bF L R∧¬ rh r now drain∧L'=[]∧R'=[]∧ans=0∧nw=false∧code=2)∨
 (bF L R∧rh r now drain∧oG L R r now drain L' R' ans nw∧code=0)
end
end Go.Proofs.YtfliffgmeobclaaGreat
