/- Texts of the row's proof. Conditions: none. -/
import Derived.BigQuiet
import Derived.Test.YtfliffgmeobclaaGreatK07
namespace Go.Proofs.YtfliffgmeobclaaGreat
set_option maxRecDepth 100000
set_option maxHeartbeats 8000000
section
open Go.RowKit
theorem Q7 {p:Prop} (h:p:=by
 obtain ⟨at1,ct1,rfl,_⟩:=aq R2'.out.1;rw [show (fS N).length=N from by simp [fS]] at R2' ⊢;have c0:=aj KB x0.out m0;have c1:=aj KB x1.out m1;have C0:=Hu c0;have C1:=Hu c1;have XW:=Hu xw;have XM:=Hu xm;have K2:=Hu KB;have d10:=ae c0 10;have d11:=ae c0 11;have d12:=ae c0 12;have y17:=ae xw 17;have yf17:=ap xw 17;simp only [jV,I7,I6,I5] at d10 d11 d12 y17;have nn0:w.heap.size≠bw:=by omega
 clear c0 c1 xw xm KB;go_wp2_with fail;have KA:=Hu (K2.out.setCell (p:=⟨bw,17,none⟩) nb6 (.slice at1 N ct1));have XA:=Hu (aP (j:=17) XW.out (.slice at1 N ct1));have RA:=Hu (aB (p:=⟨bw,17,none⟩) R2'.out nb3 (.slice at1 N ct1));have XMA:=Hu (aU (j:=17) (u:=(.slice at1 N ct1)) XM.out nb4.symm);generalize w2.setCell ⟨bw,17,none⟩ (.slice at1 N ct1)=w3 at KA XA RA XMA ⊢;refine (tE _ _ _ _ HBd.out).mono ?_;rintro e w4 ⟨rfl,hb4⟩;have K4:=Hu (KA.out.trans (hb4.mono KA.out.size));have lw3:=lt_of_block XA.out;have X4:Hid (w4.heap[bw]?=some (.cells (jV (N:Int) num den tries warm drain idle connect retries most bn bd bb ww wf wh (.slice at1 N ct1) (.slice (some ⟨bm,0,none⟩) 12 12) 0 (.slice none 0 0)) 63 (0,0))):=aj hb4 XA.out lw3;have R4:=Hu (io RA.out hb4);have M4:=Hu (aj hb4 XMA.out (lt_of_block XMA.out));have y23:=ae X4.out 23;have yf23:=ap X4.out 23;simp only [jV,I7,I6,I5] at y23;clear hb4 d10 d11 d12 y17 yf17;go_wp2_with fail;have KA5:=Hu (K4.out.setCell (p:=⟨bw,23,none⟩) nb6 (.int .i64 (bb*bd)));have XA5:=Hu (aP (j:=23) X4.out (.int .i64 (bb*bd)));have RA5:=Hu (aB (p:=⟨bw,23,none⟩) R4.out nb3 (.int .i64 (bb*bd)));have MA5:=Hu (aU (j:=23) (u:=.int .i64 (bb*bd)) M4.out nb4.symm);generalize w4.setCell ⟨bw,23,none⟩ (.int .i64 (bb*bd))=w5 at KA5 XA5 RA5 MA5 ⊢;refine (tC 0 _ (by omega) (by omega)).mono ?_;rintro e w6 ⟨vl,rfl,R6,hb6⟩;have K6:=Hu (KA5.out.trans (hb6.mono KA5.out.size));have X6:Hid (w6.heap[bw]?=some (.cells (jV (N:Int) num den tries warm drain idle connect retries most bn bd bb ww wf wh (.slice at1 N ct1) (.slice (some ⟨bm,0,none⟩) 12 12) (bb*bd) (.slice none 0 0)) 63 (0,0))):=aj hb6 XA5.out (lt_of_block XA5.out);have R6':=Hu (io RA5.out hb6);have M6:=Hu (aj hb6 MA5.out (lt_of_block MA5.out));have lw5:=lt_of_block XA5.out;have L6:=Hu (aG (B':=bw+1) R6 (by omega));clear R6;obtain ⟨al1,cl1,rfl,_⟩:=oE L6.out.1;rw [show (tT 25).length=25 from by simp [tT]] at L6 ⊢;have y24:=ae X6.out 24;have yf24:=ap X6.out 24;have y25:=ae X6.out 25;have yf25:=ap X6.out 25;simp only [jV,I7,I6,I5] at y24 y25;have XF:Hid (((w6.setCell ⟨bw,24,none⟩ (.int .i64 0)).setCell ⟨bw,25,none⟩ (.slice al1 25 cl1)).heap[bw]?=some (.cells (jV (N:Int) num den tries warm drain idle connect retries most bn bd bb ww wf wh (.slice at1 N ct1) (.slice (some ⟨bm,0,none⟩) 12 12) (bb*bd) (.slice al1 25 cl1)) 63 (0,0))):=aP (j:=25) (aP (j:=24) X6.out (.int .i64 0)) (.slice al1 25 cl1);have C6:=Hu (aU (j:=25) (u:=(.slice al1 25 cl1)) (aU (j:=24) (u:=.int .i64 0) (aj K6.out x1.out m1) (show w.heap.size+1≠bw by omega)) (show w.heap.size+1≠bw by omega));have RF:=Hu (aB (p:=⟨bw,25,none⟩) (aB (p:=⟨bw,24,none⟩) R6'.out nb3 (.int .i64 0)) nb3 (.slice al1 25 cl1));have LF:=Hu (aB (p:=⟨bw,25,none⟩) (aB (p:=⟨bw,24,none⟩) L6.out (Nat.lt_succ_self bw) (.int .i64 0)) (Nat.lt_succ_self bw) (.slice al1 25 cl1));have MF:=Hu (aU (j:=25) (u:=(.slice al1 25 cl1)) (aU (j:=24) (u:=.int .i64 0) M6.out nb4.symm) nb4.symm);have KF:=Hu ((K6.out.setCell (p:=⟨bw,24,none⟩) nb6 (.int .i64 0)).setCell (p:=⟨bw,25,none⟩) nb6 (.slice al1 25 cl1));clear hb6;go_wp2_with (first|(refine Iy rfl 63 (.tmp 5) rfl bw rfl 63 (jV (N:Int) num den tries warm drain idle connect retries most bn bd bb ww wf wh (.slice at1 N ct1) (.slice (some ⟨bm,0,none⟩) 12 12) (bb*bd) (.slice al1 25 cl1)) (0,0) _ XF.out Tryz.underlying63 rfl (by kernel_rfl) ?_)|(refine Iz rfl 63 (.tmp 2) (.tmp 34) rfl (w.heap.size+1) (jV (N:Int) num den tries warm drain idle connect retries most bn bd bb ww wf wh (.slice at1 N ct1) (.slice (some ⟨bm,0,none⟩) 12 12) (bb*bd) (.slice al1 25 cl1)) rfl rfl 63 bP C6.out (by kernel_rfl) rfl (qp _ _ _ _ _ _ _ _ _ _ _ _ _ _ _ _ _ _ _ _ _ _ _ _ _ _) ?_));refine Ix (v:=.tuple #[.agg (jV (N:Int) num den tries warm drain idle connect retries most bn bd bb ww wf wh (.slice at1 N ct1) (.slice (some ⟨bm,0,none⟩) 12 12) (bb*bd) (.slice al1 25 cl1)),.int .i64 0]) ?_ rfl ?_;rotate_left
 ·exact ⟨_,_,_,rfl,(lu RF.out nb7 _).1,hz_row (HHZ.out ▸ b8 MF.out (by omega)),(lu LF.out (by omega) _).1,aW (B0.out.trans (KF.out.mono (by omega))) (by omega)⟩
 exact eQ Tryz.results19 _ _ (w.heap.size+1) 63 (jV (N:Int) num den tries warm drain idle connect retries most bn bd bb ww wf wh (.slice at1 N ct1) (.slice (some ⟨bm,0,none⟩) 12 12) (bb*bd) (.slice al1 25 cl1)) (0,0) _ _ rfl rfl (aZ C6.out) Tryz.underlying63 rfl (by kernel_rfl)):p:=h
theorem Q43 {p:Prop} (h:p:=by
 go_wp2
 all_goals first|(go_ret;exact ⟨rI HCd.out.symm,B2.out⟩)|exact Zx):p:=h
theorem Q48 {p:Prop} (h:p:=by
 go_wp2
 all_goals first|(go_ret;exact ⟨rI (by first|exact HP.out|(have:=HP.out;simp;omega)|(have:=HP.out;omega)),Zb⟩)|exact Zx):p:=h
theorem Q73 {p:Prop} (h:p:=by
 have hn:¬ nU ⟨kd,ky,sl,gn,gd,rq,bk,wt⟩:=fun h=>by have:=HIn.out.2 h _ HMem.out;unfold zU at this;simp only at this;omega
 rcases HC.out with ⟨h,_⟩|⟨_,_,h⟩|⟨_,h,_⟩|⟨_,h,_⟩
 ·exact absurd HY.out h
 ·exact h
 all_goals exact absurd h hn):p:=h
theorem Q76 {p:Prop} (h:p:=by
 go_wp2_with fail;go_quiet (fail);go_wp2;go_roundw
 case rel=>exact ⟨k+1,k,by go_num,rfl,by omega,HN.out,aJ (HB.out.trans (hbx.out.mono (by omega))),by simp;omega,by simpa using y0,by simpa using y1⟩
 case measure=>simp [intOf];omega):p:=h
theorem Q87 {p:Prop} (h:p:=by
 go_wp2;refine Ix (v:=.tuple #[.int .i64 bk,.int .i64 0]) ?_ rfl ?_;(focus (first|(simp [results,Tryz.results97,go_sem];done)|(simp [results,Tryz.results97,go_sem, *];done)));exact ⟨rfl,Zb⟩):p:=h
theorem Q94 {p:Prop} (h:p:=by
 go_enter Tryz.func178,Tryz.ntmps178;go_wp2
 all_goals first|(go_ret;exact ⟨rB HV.out,Zb⟩)|exact Zx):p:=h
theorem Q99 {p:Prop} (h:p:=by
 clear hc;go_wp2_with fail;go_quiet (fail);go_wp2
 all_goals first|(go_ret;exact ⟨rI HCd.out.symm,aJ (B1.out.trans ((HB.out.alloc HB.out.size _).mono (by omega)))⟩)|exact Zx):p:=h
theorem Q153 {p:Prop} (h:p:=by
 rw [rounds_succ];go_wp2;go_quiet (fail);go_wp2;rw [rounds_succ];go_wp2;go_quiet (fail);exact Q48):p:=h
theorem Q157 {p:Prop} (h:p:=by
 rcases hf with rfl|rfl
 ·exact ⟨l1,(c 2).trans rfl⟩
 ·exact ⟨l1,(c 3).trans rfl⟩):p:=h
theorem Q163 {p:Prop} (h:p:=by
 subst this;clear hr;go_enter Tryz.func126,Tryz.ntmps126;go_wp2
 all_goals exact Zf):p:=h
def jm (L:List Ld) (i:Nat):Int:=if i=0 then -1 else (L.getD (i - 1) Ld.zero).backend
def nR (L:List Ld) (i:Nat):Prop:=jm L i<(L.getD i Ld.zero).backend∧(L.getD i Ld.zero).backend≤11∧0≤(L.getD i Ld.zero).weight∧(L.getD i Ld.zero).weight≤8∧0≤(L.getD i Ld.zero).flows∧(L.getD i Ld.zero).flows≤40
def ez (L:List Ld):Prop:=L.length≤12∧∀ i,i<L.length→nR L i
theorem vI {L:List Ld}:∀ {i:Nat},(∀ j,j<i→nR L j)→-1≤jm L i
 | 0,_=>by simp [jm]
 | i+1,h=>by
  have h1:=vI (i:=i) (fun j hj=>h j (by omega));have h2:=(h i (by omega)).1;simp only [jm,Nat.add_sub_cancel,if_neg (by omega:¬ i+1=0)];omega
theorem D9 {L:List Ld} {i:Nat} (h:∀ j,j<i→nR L j):jm L i≤11:=by
 cases i with
 | zero=>simp [jm]
 | succ i=>
  simp only [jm,Nat.add_sub_cancel,if_neg (by omega:¬ i+1=0)];exact (h i (by omega)).2.1
theorem pW (v:Value) (L:List Ld) (r:Bool) (w:World) (hv:aI w 3 v (L.map Ld.cells)) (hr:(ez L∧r=true)∨(¬ ez L∧r=false)) :
  Calls Tryz.prog 78 #[v] w fun e w'=>e=.returned (.bool r)∧Below w.heap.size w w':=by
 have HR:=Hu hr
 obtain ⟨a,c,rfl,l,m,n,p⟩:=aK Ld.zero hv
 have P:=Hu p
 clear hv p l m n hr
 by_cases h12:L.length≤12
 rotate_left
 ·have g1:(12:Int)<(L.length:Int):=by omega
  obtain rfl:r=false:=by rcases HR.out with ⟨h,_⟩|⟨_,h⟩;exact absurd h.1 h12;exact h
  clear HR h12;go_enter Tryz.func78,Tryz.ntmps78;go_wp2
  all_goals exact Zf
 have g1:(L.length:Int)≤12:=by omega
 go_enter Tryz.func78,Tryz.ntmps78
 go_wp2
 go_loopw [3,11] (fun la i wr=>∃ k:Nat,k≤L.length∧i=.int .i64 k∧la=.int .i64 (jm L k)∧Below w.heap.size w wr∧∀ j,j<k→nR L j) (fun _ i _=>L.length - (intOf i).toNat)
 case atStart=>exact ⟨0,I4 _,rfl,rfl,Hv _ _,fun j hj=>by omega⟩
 case round=>
  obtain ⟨k,hk,rfl,rfl,hb,hall⟩:=hrel;have HA:=Hu hall;have HB:=Hu hb;have lo:=vI hall;have hi:=D9 hall;clear hall;rcases (show k<L.length∨L.length=k by omega) with hlt|heq
  ·have hlt':(k:Int)<(L.length:Int):=by omega
   obtain ⟨b0,o0,rfl,hb0,q⟩:=P.out (by intro h;rw [h] at hlt;simp at hlt);obtain ⟨s,hs⟩:∃ s,s=L.getD k Ld.zero:=⟨_,rfl⟩
   have hold:∀ j,j<3→wr.cell? ⟨b0,o0+k*3+j,none⟩=s.cells[j]?:=fun j hj=>by
    rw [hb.cell (p:=⟨b0,o0+k*3+j,none⟩) hb0,hs];exact q k j hlt hj
   have a0:=hold 0 (by omega);have a1:=hold 1 (by omega);have a2:=hold 2 (by omega)
   have hat:nR L k↔(jm L k<s.backend∧s.backend≤11∧0≤s.weight∧s.weight≤8∧0≤s.flows∧s.flows≤40):=by rw [hs];exact Iff.rfl
   have hnx:jm L (k+1)=s.backend:=by simp only [jm,Nat.add_sub_cancel,if_neg (by omega:¬ k+1=0)];rw [hs]
   obtain ⟨la,hla⟩:∃ la,la=jm L k:=⟨_,rfl⟩;rw [← hla] at hat lo hi;have HX:=Hu (And.intro hat hnx);have HLA:=Hu hla;rw [← hla];clear hold hs q hat hnx hla hb;obtain ⟨bk,wt,fl⟩:=s;simp only [Ld.cells,I5,I6,Nat.add_zero] at a0 a1 a2;rcases (show ((bk≤la))∨((la<bk)∧(12≤bk))∨((la<bk)∧(bk≤11)∧(wt<0))∨((la<bk)∧(bk≤11)∧(0≤wt)∧(8<wt))∨((la<bk)∧(bk≤11)∧(0≤wt)∧(wt≤8)∧(fl<0))∨((la<bk)∧(bk≤11)∧(0≤wt)∧(wt≤8)∧(0≤fl)∧(40<fl))∨((la<bk)∧(bk≤11)∧(0≤wt)∧(wt≤8)∧(0≤fl)∧(fl≤40)) by (rcases (show (bk≤la)∨(la<bk) by omega) with hx0|hx0;exact Or.inl hx0;(rcases (show (12≤bk)∨(bk≤11) by omega) with hx1|hx1;exact Or.inr (Or.inl ⟨hx0,hx1⟩);(rcases (show (wt<0)∨(0≤wt) by omega) with hx2|hx2;exact Or.inr (Or.inr (Or.inl ⟨hx0,hx1,hx2⟩));(rcases (show (8<wt)∨(wt≤8) by omega) with hx3|hx3;exact Or.inr (Or.inr (Or.inr (Or.inl ⟨hx0,hx1,hx2,hx3⟩)));(rcases (show (fl<0)∨(0≤fl) by omega) with hx4|hx4;exact Or.inr (Or.inr (Or.inr (Or.inr (Or.inl ⟨hx0,hx1,hx2,hx3,hx4⟩))));(rcases (show (40<fl)∨(fl≤40) by omega) with hx5|hx5;exact Or.inr (Or.inr (Or.inr (Or.inr (Or.inr (Or.inl ⟨hx0,hx1,hx2,hx3,hx4,hx5⟩)))));exact Or.inr (Or.inr (Or.inr (Or.inr (Or.inr (Or.inr (⟨hx0,hx1,hx2,hx3,hx4,hx5⟩))))))))))))) with hs0|⟨hs0,hs1⟩|⟨hs0,hs1,hs2⟩|⟨hs0,hs1,hs2,hs3⟩|⟨hs0,hs1,hs2,hs3,hs4⟩|⟨hs0,hs1,hs2,hs3,hs4,hs5⟩|⟨hs0,hs1,hs2,hs3,hs4,hs5⟩
   rotate_right
   ·have HN:Hid (∀ j,j<k+1→nR L j):=fun j hj=>by
     rcases (show j<k∨j=k by omega) with h|rfl
     ·exact HA.out j h
     ·exact HX.out.1.2 ⟨hs0,by omega,hs2,hs3,hs4,hs5⟩
    have hs1':bk<12:=by omega
    go_wp2;go_roundw
    case rel=>exact ⟨k+1,by omega,by go_num,by rw [HX.out.2],HB.out.alloc HB.out.size _,HN.out⟩
    case measure=>simp [intOf];omega
   all_goals
    have hrf:Hid (r=false):=by
     rcases HR.out with ⟨h,_⟩|⟨_,h⟩
     ·have:=HX.out.1.1 (h.2 k hlt);simp only at this;omega
     ·exact h
    (try have hs1':bk<12:=by omega)
    clear HR
    go_wp2
    all_goals first|(go_ret;exact ⟨rB hrf.out.symm,HB.out.alloc HB.out.size _⟩)|exact Zx
  ·have hge:¬ (k:Int)<(L.length:Int):=by omega
   have hrt:Hid (r=true):=by
    rcases HR.out with ⟨_,h⟩|⟨h,_⟩
    ·exact h
    ·exact absurd ⟨h12,fun i hi=>HA.out i (by omega)⟩ h
   clear HR hb heq;go_wp2
   all_goals first|(go_ret;exact ⟨rB hrt.out.symm,HB.out⟩)|exact Zx
theorem vU:(Tryz.prog.info? 3).map (fun i=>(i.zero,i.size,i.bytes))=some (some (.int .i64 0),1,8):=by kernel_rfl
def jU (L:List Ld):Int:=(L.map (·.weight)).sum
def qQ (num den flows total:Int) (x:Ld):Int:=if 0<x.weight then E4 num den flows x.weight total else 0
def cq (L:List Ld) (num den flows:Int):List Int:=L.map (qQ num den flows (jU L))
theorem kG {L:List Ld} {k:Nat} (hk:k<L.length):jU (L.take (k+1))=jU (L.take k)+(L.getD k Ld.zero).weight:=by
 unfold jU;rw [Ia hk,Ir,List.sum_append];simp [List.getD,hk]
theorem oV {L:List Ld} (h:ez L):∀ {k:Nat},k≤L.length→0≤jU (L.take k)∧jU (L.take k)≤8*k
 | 0,_=>by simp [jU]
 | k+1,hk=>by
  have:=oV h (k:=k) (by omega);have h2:=h.2 k (by omega);unfold nR at h2;rw [kG (by omega)];omega
theorem rL {L:List Ld} (h:ez L):∀ {m k:Nat},k≤m→m≤L.length→jU (L.take k)≤jU (L.take m)
 | 0,k,hk,_=>by rw [show k=0 by omega];exact Int.le_refl _
 | m+1,k,hk,hm=>by
  rcases (show k=m+1∨k≤m by omega) with rfl|hk
  ·exact Int.le_refl _
  ·have:=rL h hk (by omega:m≤L.length);have h2:=h.2 m (by omega);unfold nR at h2;rw [kG (by omega)];omega
theorem EM {L:List Ld} (h:ez L) {k:Nat} (hk:k<L.length):(L.getD k Ld.zero).weight≤jU L:=by
 have h1:=rL h (by omega:k+1≤L.length) (I3 _);rw [kG hk,Ie (I3 _)] at h1;have:=(oV h (by omega:k≤L.length)).1;omega
theorem EN {L:List Ld} (h:ez L):jU L≤96:=by
 have h1:=(oV h (I3 _)).2;rw [Ie (I3 _)] at h1;have:=h.1;omega
def mY (w:World) (Y:List Int) (code:Int) (e:Ending) (w':World):Prop:=∃ v,e=.returned (.tuple #[v,.int .i64 code])∧aM w.heap.size w' 1 v (Y.map fun x=>[Value.int .i64 x])∧Below w.heap.size w w'
def gH (num den flows:Int):Prop:=1≤den∧den≤num∧num≤20∧0≤flows∧flows≤40
def mZ (L:List Ld) (num den flows:Int) (Y:List Int) (code:Int):Prop:=(¬ ez L∧Y=[]∧code=6)∨(ez L∧¬ gH num den flows∧Y=[]∧code=2)∨(ez L∧gH num den flows∧Y=cq L num den flows∧code=0)
theorem intrel (l:List Int):∀ c∈l.map (fun x=>[Value.int .i64 x]),c.length=1:=by
 exact Q29
theorem Dm (l:List Int):(l.map fun x=>[Value.int .i64 x]).flatten=l.map (Value.int .i64):=by
 induction l with
 | nil=>rfl
 | cons x l ih=>simp only [List.map_cons,List.flatten_cons];rw [ih];rfl
theorem yc {num den flows:Int} (h:¬ gH num den flows):den<1∨(1≤den∧num<den)∨(1≤den∧den≤num∧20<num)∨(1≤den∧den≤num∧num≤20∧flows<0)∨(1≤den∧den≤num∧num≤20∧0≤flows∧40<flows):=by
 unfold gH at h;omega
theorem rx (v:Value) (L:List Ld) (num den flows:Int) (w:World) (hv:aI w 3 v (L.map Ld.cells)) (h:¬ ez L):Calls Tryz.prog 37 #[v,.int .i64 num,.int .i64 den,.int .i64 flows] w (mY w [] 6):=by
 have H:=Hu h;have R:=Hu hv;obtain ⟨a,c,rfl,_⟩:=aq hv;clear h hv;go_enter Tryz.func37,Tryz.ntmps37;go_wp2_with (go_at_call 78;refine (pW _ L false _ R.out (Or.inr ⟨H.out,rfl⟩)).mono ?_;rintro e w1 ⟨rfl,hb1⟩;obtain ⟨hc1,hf1⟩:=aV hb1;have hz1:=fQ hb1;have hy1:=hb1.size;(try simp at hy1));refine Ix (v:=.tuple #[.slice none 0 0,.int .i64 6]) ?_ rfl ⟨_,rfl,bD _ _ _,hb1⟩;simp [results,Tryz.results37,go_sem]
theorem jO (v:Value) (L:List Ld) (num den flows:Int) (w:World) (hv:aI w 3 v (L.map Ld.cells)) (h:ez L) (h2:¬ gH num den flows):Calls Tryz.prog 37 #[v,.int .i64 num,.int .i64 den,.int .i64 flows] w (mY w [] 2):=by
 have H:=Hu h;have R:=Hu hv;obtain ⟨a,c,rfl,_⟩:=aq hv;clear h hv;rcases yc h2 with h3|⟨h3,h4⟩|⟨h3,h4,h5⟩|⟨h3,h4,h5,h6⟩|⟨h3,h4,h5,h6,h7⟩
 all_goals
  clear h2
  go_enter Tryz.func37,Tryz.ntmps37
  go_wp2_with (first|(go_at_call 78;refine (pW _ L true _ R.out (Or.inl ⟨H.out,rfl⟩)).mono ?_;rintro e w1 ⟨rfl,hb1⟩;obtain ⟨hc1,hf1⟩:=aV hb1;have hz1:=fQ hb1;have hy1:=hb1.size;(try simp at hy1))|go_in)
  refine Ix (v:=.tuple #[.slice none 0 0,.int .i64 2]) ?_ rfl ⟨_,rfl,bD _ _ _,hb1⟩
  simp [results,Tryz.results37,go_sem]
def CpRel (w wr:World) (L:List Ld) (num den flows:Int) (g k:Nat):Prop:=Below w.heap.size w wr∧w.heap.size≤g∧wr.ownsRow w.heap.size 3 1 (.slice (some ⟨g,0,none⟩) L.length L.length) L.length (((cq L num den flows).take k++List.replicate (L.length - k) 0).map (Value.int .i64))
theorem sM {L:List Ld} {num den flows:Int} {k:Nat} {s:Ld} (hk:k<L.length) (hs:s=L.getD k Ld.zero) :
  ((cq L num den flows).take (k+1)++List.replicate (L.length - (k+1)) 0)=((cq L num den flows).take k++List.replicate (L.length - k) 0).set k (qQ num den flows (jU L) s):=by
 have hl:(cq L num den flows).length=L.length:=by simp [cq]
 have e:(cq L num den flows).take k++List.replicate (L.length - k) (0:Int)=(cq L num den flows).take k++(0 :: List.replicate (L.length - (k+1)) 0):=by
  rw [← List.replicate_succ,show L.length - (k+1)+1=L.length - k by omega]
 rw [e,List.set_append_right _ _ (by simp [hl];omega),Ii,hl,show k - min k L.length=0 by omega,List.set_cons_zero,Ia (by omega)]
 simp [cq,hs,List.getD,hk]
theorem Cm {α:Type} {l:List α} {k:Nat} {x:α} (h:l[k]?=some x):l.set k x=l:=by
 apply List.ext_getElem?;intro j;rw [List.getElem?_set];by_cases hj:k=j
 ·subst hj
  have:k<l.length:=by
   rcases Nat.lt_or_ge k l.length with h'|h'
   ·exact h'
   ·rw [Ik h'] at h
    cases h
  rw [if_pos rfl,if_pos this,h]
 ·rw [if_neg hj]
theorem sL {L:List Ld} {num den flows:Int} {k:Nat} (hk:k<L.length):((cq L num den flows).take k++List.replicate (L.length - k) 0)[k]?=some 0:=by
 have hl:(cq L num den flows).length=L.length:=by simp [cq]
 rw [IC (by rw [Ii];omega),Ii,hl,show k - min k L.length=0 by omega,List.getElem?_replicate,if_pos (by omega)]
theorem Bz {L:List Ld} {num den flows:Int} {k:Nat} {s:Ld} (hk:k<L.length) (hs:s=L.getD k Ld.zero) (hw:¬ 0<s.weight) :
  ((cq L num den flows).take (k+1)++List.replicate (L.length - (k+1)) 0)=((cq L num den flows).take k++List.replicate (L.length - k) 0):=by
 rw [sM hk hs]
 have:qQ num den flows (jU L) s=0:=by simp [qQ,hw]
 rw [this]
 exact Cm (sL hk)
theorem mq (v:Value) (L:List Ld) (num den flows:Int) (w:World) (hv:aI w 3 v (L.map Ld.cells)) (h:ez L) (h2:gH num den flows):Calls Tryz.prog 37 #[v,.int .i64 num,.int .i64 den,.int .i64 flows] w (mY w (cq L num den flows) 0):=by
 obtain ⟨i0,hi,hi0,hi1,hi2⟩:=info_parts vU;have H:=Hu h;have R:=Hu hv;obtain ⟨a,c,rfl,l,m,n,p⟩:=aK Ld.zero hv;have P:=Hu p;have h12:L.length≤12:=h.1;have hF:=Hu h2;have h96:=EN h;obtain ⟨d1,d2,d3,d4,d5⟩:=h2;clear h hv p l m n;go_enter Tryz.func37,Tryz.ntmps37;go_wp2_with (first|(go_at_call 78;refine (pW _ L true _ R.out (Or.inl ⟨H.out,rfl⟩)).mono ?_;rintro e w1 ⟨rfl,hb1⟩;obtain ⟨hc1,hf1⟩:=aV hb1;have hz1:=fQ hb1;have hy1:=hb1.size;(try simp at hy1))|go_in);go_loopw [10,33] (fun t i wr=>∃ k:Nat,k≤L.length∧i=.int .i64 k∧t=.int .i64 (jU (L.take k))∧Below w.heap.size w wr) (fun _ i _=>L.length - (intOf i).toNat)
 case atStart=>exact ⟨0,I4 _,rfl,rfl,hb1⟩
 case round=>
  obtain ⟨k,hk,rfl,rfl,hb⟩:=hrel;have HB:=Hu hb;clear hc1 hf1 hz1 hb1;have t1:=oV H.out hk;rcases (show k<L.length∨L.length=k by omega) with hlt|heq
  ·have hlt':(k:Int)<(L.length:Int):=by omega
   obtain ⟨b0,o0,rfl,hb0,q⟩:=P.out (by intro h;rw [h] at hlt;simp at hlt);obtain ⟨s,hs⟩:∃ s,s=L.getD k Ld.zero:=⟨_,rfl⟩
   have hold:∀ j,j<3→wr.cell? ⟨b0,o0+k*3+j,none⟩=s.cells[j]?:=fun j hj=>by
    rw [hb.cell (p:=⟨b0,o0+k*3+j,none⟩) hb0,hs];exact q k j hlt hj
   have a0:=hold 0 (by omega);have a1:=hold 1 (by omega);have a2:=hold 2 (by omega);have hat:nR L k:=H.out.2 k hlt;have hw:=Hu (kG hlt);rw [← hs] at hw
   have w1':0≤s.weight∧s.weight≤8:=by unfold nR at hat;rw [← hs] at hat;exact ⟨hat.2.2.1,hat.2.2.2.1⟩
   obtain ⟨w1',w2'⟩:=w1';clear hold hs q hat hb;obtain ⟨bk,wt,fl⟩:=s;simp only [Ld.cells,I5,I6,Nat.add_zero] at a0 a1 a2 w1' w2';go_wp2;go_roundw
   case rel=>exact ⟨k+1,by omega,by go_num,by rw [hw.out],HB.out.alloc HB.out.size _⟩
   case measure=>simp [intOf];omega
  ·have hge:¬ (k:Int)<(L.length:Int):=by omega
   obtain ⟨T,hT⟩:∃ T,T=jU (L.take k):=⟨_,rfl⟩
   have HT:Hid (T=jU L):=by rw [hT,Ie (by omega)];rfl
   rw [← hT] at t1 ⊢;clear hb hT;have heq':=Hu heq;clear heq;go_wp2_with (at_make;go_loud (refine wpList_make_full _ rfl _ _ 117 rfl w.heap.size 3 i0 (.int .i64 0) 1 Tryz.underlying117 hi hi0 hi1 .i64 .i64 L.length L.length L.length rfl rfl rfl rfl ?c1 ?c2 ?c3 ?_))
   case c1=>((try rw [hi2]);omega)
   case c2=>unfold maxLen;omega
   case c3=>exact HB.out.size
   intro w2 hown hgrow
   have hm:(madeCells #[.int .i64 0] L.length).toList=(((cq L num den flows).take 0++List.replicate (L.length - 0) 0).map (Value.int .i64)):=by
    have h:=fy #[.int .i64 0] L.length (by decide);rw [show L.length*(#[Value.int IntKind.i64 0]).size=L.length by simp] at h;rw [h];simp
   rw [hm] at hown;have B0:Below wr.heap.size wr w2:=(Hv _ _).grown hgrow (by simp) (fun k hk=>by cases hk);have HB2:=Hu (HB.out.trans (B0.mono HB.out.size));have HO:=Hu hown;obtain ⟨g,hg⟩:∃ g,g=wr.heap.size:=⟨_,rfl⟩
   have hg1:w.heap.size≤g:=by have:=HB.out.size;omega
   rw [← hg] at HO ⊢;clear hown hgrow B0 hg HB hm;go_wp2_with fail;go_loopw [47] (fun i wr=>∃ k:Nat,k≤L.length∧i=.int .i64 k∧CpRel w wr L num den flows g k) (fun i _=>L.length - (intOf i).toNat)
   case atStart=>exact ⟨0,I4 _,rfl,HB2.out,hg1,HO.out⟩
   case round=>
    obtain ⟨k,hk,rfl,hb,hg2,hown⟩:=hrel;have HB3:=Hu hb;have HO3:=Hu hown;clear HB2 HO hown;have gl:g<wr.heap.size:=(HO3.out.lt _ rfl).2;rcases (show k<L.length∨L.length=k by omega) with hlt|heq
    ·have hlt':(k:Int)<(L.length:Int):=by omega
     obtain ⟨b0,o0,rfl,hb0,q⟩:=P.out (by intro h;rw [h] at hlt;simp at hlt);obtain ⟨s,hs⟩:∃ s,s=L.getD k Ld.zero:=⟨_,rfl⟩
     have hold:∀ j,j<3→wr.cell? ⟨b0,o0+k*3+j,none⟩=s.cells[j]?:=fun j hj=>by
      rw [hb.cell (p:=⟨b0,o0+k*3+j,none⟩) hb0,hs];exact q k j hlt hj
     have a0:=hold 0 (by omega);have a1:=hold 1 (by omega);have a2:=hold 2 (by omega);have hat:nR L k:=H.out.2 k hlt
     have hge:s.weight≤T:=by rw [HT.out,hs];exact EM H.out hlt
     have hT96:T≤96:=by rw [HT.out];exact h96
     have w1':0≤s.weight∧s.weight≤8:=by unfold nR at hat;rw [← hs] at hat;exact ⟨hat.2.2.1,hat.2.2.2.1⟩
     obtain ⟨w1',w2'⟩:=w1';have hSK:=Hu (fun hw=>Bz (num:=num) (den:=den) (flows:=flows) hlt hs hw);have hset:(((cq L num den flows).take (k+1)++List.replicate (L.length - (k+1)) 0).map (Value.int .i64))=(((cq L num den flows).take k++List.replicate (L.length - k) 0).map (Value.int .i64)).set k (.int .i64 (qQ num den flows (jU L) s)):=by rw [sM hlt hs,List.map_set]
     have e1:wr.cell? ⟨g,k,none⟩=some (.int .i64 0):=by rw [HO3.out.cellAt k (by omega),List.getElem?_map,sL hlt];rfl
     have e2:wr.frozen? ⟨g,k,none⟩=false:=HO3.out.frozenAt k;have HS:=Hu hset;clear hold hs q hat hb hset;obtain ⟨bk,wt,fl⟩:=s;simp only [Ld.cells,I5,I6,Nat.add_zero] at a0 a1 a2 w1' w2' hge;by_cases hw:0<wt
     ·have hmay:EC num den flows wt T:=⟨d1,d2,d3,d4,d5,by omega,hge,hT96⟩;have HM:=Hu hmay
      have HV:Hid (E4 num den flows wt T=qQ num den flows (jU L) ⟨bk,wt,fl⟩):=by rw [HT.out];simp [Hid,qQ,hw]
      clear hmay;go_wp2_with (go_at_call 80;refine (Cz _ _ _ _ _ _ HM.out).mono ?_;rintro e w' ⟨rfl,rfl⟩);go_roundw
      case rel=>exact ⟨k+1,by omega,by go_num,(HB3.out.setCell Zs _).alloc (by simp;exact HB3.out.size) _,hg2,by rw [HS.out,← HV.out];exact (HO3.out.stored k _).1.alloc _⟩
      case measure=>simp [intOf];omega
     ·have hd:decide (0<wt)=false:=by simpa using hw
      go_wp2;go_roundw
      case rel=>exact ⟨k+1,by omega,by go_num,HB3.out.alloc HB3.out.size _,hg2,by rw [hSK.out hw];exact HO3.out.alloc _⟩
      case measure=>simp [intOf];omega
    ·have hge:¬ (k:Int)<(L.length:Int):=by omega
     have hEQ:=Hu heq;clear hb heq;go_wp2;refine Ix (v:=.tuple #[.slice (some ⟨g,0,none⟩) L.length L.length,.int .i64 0]) ?_ rfl ⟨_,rfl,?_,HB3.out⟩
     ·simp [results,Tryz.results37,go_sem, *]
     ·refine aD (e:=3) (n:=L.length) ?_ (by simp [cq]) (intrel _);have h:=HO3.out
      have e:(cq L num den flows).take k++List.replicate (L.length - k) 0=cq L num den flows:=by
       have:=hEQ.out;rw [Ie (by simp [cq];omega),show L.length - k=0 by omega];simp
      rw [e] at h;rw [Dm];exact h
structure Cf where
 flows:Int
 num:Int
 den:Int
 tries:Int
 warm:Int
 drain:Int
 idle:Int
 connect:Int
 retries:Int
 most:Int
 bn:Int
 bd:Int
 bb:Int
 ww:Int
 wf:Int
 wh:Int
 deriving DecidableEq
def Cf.cells (x:Cf):List Value:=[.int .i64 x.flows,.int .i64 x.num,.int .i64 x.den,.int .i64 x.tries,.int .i64 x.warm,.int .i64 x.drain,.int .i64 x.idle,.int .i64 x.connect,.int .i64 x.retries,.int .i64 x.most,.int .i64 x.bn,.int .i64 x.bd,.int .i64 x.bb,.int .i64 x.ww,.int .i64 x.wf,.int .i64 x.wh]
def Cf.zero:Cf:=⟨0,0,0,0,0,0,0,0,0,0,0,0,0,0,0,0⟩
def CfBase (x:Cf):Prop:=(0≤x.warm∧x.warm≤500∧1≤x.drain∧x.drain≤500∧1≤x.idle∧x.idle≤500∧1≤x.connect∧x.connect≤500)∧(1≤x.den∧x.den≤x.num∧x.num≤20)∧(1≤x.flows∧x.flows≤40∧0≤x.tries∧x.tries≤12∧0≤x.retries∧x.retries≤20∧0≤x.most∧x.most≤100)
def ju (x:Cf):Prop:=CfBase x∧i8 x.bn x.bd x.bb∧i7 x.ww x.wf x.wh
theorem lE (n lo hi:Int) (w:World) (h1:lo≤n) (h2:n≤hi):Calls Tryz.prog 36 #[.int .i64 n,.int .i64 lo,.int .i64 hi] w fun e w'=>e=.returned (.bool true)∧w=w':=by
 go_enter Tryz.func36,Tryz.ntmps36;go_wp2
 all_goals first|(go_ret;exact ⟨rfl,rfl⟩)|exact Zx
theorem qX:ez []:=⟨by simp,fun i hi=>by simp at hi⟩
def CnPost (w:World) (code:Int) (e:Ending) (w':World):Prop:=∃ v,e=.returned (.tuple #[v,.int .i64 code])∧Below w.heap.size w w'
def Hr (num den cd:Int):Prop:=(gH num den 0∧cd=0)∨(¬ gH num den 0∧cd=2)
theorem rv (num den code:Int) (w:World) (h:Hr num den code):Calls Tryz.prog 37 #[.slice none 0 0,.int .i64 num,.int .i64 den,.int .i64 0] w (CnPost w code):=by
 rcases h with ⟨h,rfl⟩|⟨h,rfl⟩
 ·exact (mq _ [] num den 0 w (ix w 3) qX h).mono fun e w' ⟨v,he,_,hb⟩=>⟨v,he,hb⟩
 ·exact (jO _ [] num den 0 w (ix w 3) qX h).mono fun e w' ⟨v,he,_,hb⟩=>⟨v,he,hb⟩
theorem kj (flows num den tries warm drain idle connect retries most bn bd bb ww wf wh:Int) (w:World) (h:ju ⟨flows,num,den,tries,warm,drain,idle,connect,retries,most,bn,bd,bb,ww,wf,wh⟩):Calls Tryz.prog 25 #[.agg #[.int .i64 flows,.int .i64 num,.int .i64 den,.int .i64 tries,.int .i64 warm,.int .i64 drain,.int .i64 idle,.int .i64 connect,.int .i64 retries,.int .i64 most,.int .i64 bn,.int .i64 bd,.int .i64 bb,.int .i64 ww,.int .i64 wf,.int .i64 wh]] w fun e w'=>e=.returned (.int .i64 0)∧Below w.heap.size w w':=by
 obtain ⟨⟨⟨hs0,hs1,hs2,hs3,hs4,hs5,hs6,hs7⟩,⟨d1,d2,d3⟩,⟨ht0,ht1,ht2,ht3,ht4,ht5,ht6,ht7⟩⟩,hbud,hwat⟩:=h;obtain ⟨cd,hcd⟩:∃ cd:Int,cd=0:=⟨_,rfl⟩;have HF:Hid (Hr num den cd):=Or.inl ⟨⟨d1,d2,d3,by omega,by omega⟩,hcd⟩;subst hcd;have HB:=Hu hbud;have HW:=Hu hwat;clear hbud hwat;simp only at hs0 hs1 hs2 hs3 hs4 hs5 hs6 hs7 d1 d2 d3 ht0 ht1 ht2 ht3 ht4 ht5 ht6 ht7;go_enter Tryz.func25,Tryz.ntmps25;go_wp2_with (first|(go_at_call 36;first|(refine (lE _ _ _ _ (by omega) (by omega)).mono ?_;rintro e w' ⟨rfl,rfl⟩)|(refine (within_no _ _ _ _ (by omega)).mono ?_;rintro e w' ⟨rfl,rfl⟩))|(go_at_call 37;refine (rv num den 0 _ HF.out).mono ?_;rintro e w1 ⟨v1,rfl,hb1⟩;obtain ⟨hc1,hf1⟩:=aV hb1;have hz1:=fQ hb1;have hy1:=hb1.size;(try simp at hy1))|(go_at_call 38;refine (j8 _ _ _ _ HB.out).mono ?_;rintro e w2 ⟨rfl,hb2⟩;obtain ⟨hc2,hf2⟩:=aV hb2;have hz2:=fQ hb2;have hy2:=hb2.size;(try simp at hy2))|(go_at_call 39;refine (iH _ _ _ _ HW.out).mono ?_;rintro e w3 ⟨rfl,hb3⟩;obtain ⟨hc3,hf3⟩:=aV hb3;have hz3:=fQ hb3;have hy3:=hb3.size;(try simp at hy3)))
 all_goals exact Zf
theorem CF {a n:Nat} (h:a / 8=n / 8):bH a n=a % 8:=by unfold bH;rw [if_pos h]
theorem CE {a n:Nat} (h:¬ a / 8=n / 8) (h2:a / 64=n / 64):bH a n=8+a / 8 % 8:=by unfold bH;rw [if_neg h,if_pos h2]
theorem CD {a n:Nat} (h:¬ a / 8=n / 8) (h2:¬ a / 64=n / 64) (h3:a / 512=n / 512):bH a n=16+a / 64 % 8:=by unfold bH;rw [if_neg h,if_neg h2,if_pos h3]
theorem CC {a n:Nat} (h:¬ a / 8=n / 8) (h2:¬ a / 64=n / 64) (h3:¬ a / 512=n / 512):bH a n=24:=by unfold bH;rw [if_neg h,if_neg h2,if_neg h3]
theorem lM (a n:Nat) (w:World) (ha:a≤2199023255552) (hn:n≤2199023255552):Calls Tryz.prog 127 #[.int .i64 a,.int .i64 n] w fun e w'=>e=.returned (.int .i64 (bH a n:Nat))∧Below w.heap.size w w':=by
 obtain ⟨p,hp⟩:∃ p,p=bH a n:=⟨_,rfl⟩;rw [← hp];have b1:(a:Int)≤2199023255552:=by omega
 have b2:(n:Int)≤2199023255552:=by omega
 have b3:(0:Int)≤(a:Int):=by omega
 have b4:(0:Int)≤(n:Int):=by omega
 by_cases h1:a / 8=n / 8
 ·have HP:=Hu (show ((a:Int) % 8)=(p:Int) by rw [hp,CF h1];omega)
  have e1:((a:Int) / 8 == (n:Int) / 8)=true:=by rw [beq_iff_eq];omega
  have e2:(a:Int) / 8=(n:Int) / 8:=by omega
  clear hp h1 ha hn;go_enter Tryz.func127,Tryz.ntmps127;go_wp2;refine wp_loop_rounds 4 ?_;rw [rounds_succ];go_wp2;go_quiet (fail);exact Q48
 ·by_cases h2:a / 64=n / 64
  ·have HP:=Hu (show (8+(a:Int) / 8 % 8)=(p:Int) by rw [hp,CE h1 h2];omega)
   have e1:((a:Int) / 8 == (n:Int) / 8)=false:=by rw [beq_eq_false_iff_ne];omega
   have e2:¬ (a:Int) / 8=(n:Int) / 8:=by omega
   have e3:((a:Int) / 64 == (n:Int) / 64)=true:=by rw [beq_iff_eq];omega
   have e4:(a:Int) / 64=(n:Int) / 64:=by omega
   clear hp h1 h2 ha hn;go_enter Tryz.func127,Tryz.ntmps127;go_wp2;refine wp_loop_rounds 4 ?_;exact Q153
  ·by_cases h3:a / 512=n / 512
   ·have HP:=Hu (show (16+(a:Int) / 64 % 8)=(p:Int) by rw [hp,CD h1 h2 h3];omega)
    have e1:((a:Int) / 8 == (n:Int) / 8)=false:=by rw [beq_eq_false_iff_ne];omega
    have e2:¬ (a:Int) / 8=(n:Int) / 8:=by omega
    have e3:((a:Int) / 64 == (n:Int) / 64)=false:=by rw [beq_eq_false_iff_ne];omega
    have e4:¬ (a:Int) / 64=(n:Int) / 64:=by omega
    have e5:((a:Int) / 512 == (n:Int) / 512)=true:=by rw [beq_iff_eq];omega
    have e6:(a:Int) / 512=(n:Int) / 512:=by omega
    clear hp h1 h2 h3 ha hn;go_enter Tryz.func127,Tryz.ntmps127;go_wp2;refine wp_loop_rounds 4 ?_;rw [rounds_succ];go_wp2;go_quiet (fail);go_wp2;exact Q153
   ·have HP:=Hu (show (24:Int)=(p:Int) by rw [hp,CC h1 h2 h3];rfl)
    have e1:((a:Int) / 8 == (n:Int) / 8)=false:=by rw [beq_eq_false_iff_ne];omega
    have e2:¬ (a:Int) / 8=(n:Int) / 8:=by omega
    have e3:((a:Int) / 64 == (n:Int) / 64)=false:=by rw [beq_eq_false_iff_ne];omega
    have e4:¬ (a:Int) / 64=(n:Int) / 64:=by omega
    have e5:((a:Int) / 512 == (n:Int) / 512)=false:=by rw [beq_eq_false_iff_ne];omega
    have e6:¬ (a:Int) / 512=(n:Int) / 512:=by omega
    clear hp h1 h2 h3 ha hn;go_enter Tryz.func127,Tryz.ntmps127;go_wp2;refine wp_loop_rounds 4 ?_;rw [rounds_succ];go_wp2;go_quiet (fail);go_wp2;rw [rounds_succ];go_wp2;go_quiet (fail);go_wp2;rw [rounds_succ];go_wp2;go_quiet (fail);go_wp2;rw [rounds_succ];exact Q48
theorem jg (t:Tm) (now:Int) (w:World) (h0:0≤now) (h1:now≤1099511627776) (r:Bool) (hr:(dJ t now∧r=true)∨(¬ dJ t now∧r=false)):Calls Tryz.prog 126 #[.agg #[.int .i64 t.at_,.int .i64 t.id],.int .i64 now] w fun e w'=>e=.returned (.bool r)∧Below w.heap.size w w':=by
 obtain ⟨x,y⟩:=t;simp only [dJ] at hr;rcases (show ((¬ now<x))∨((now<x)∧(¬ x≤now+500))∨((now<x)∧(x≤now+500)∧(¬ x≤1099511627776))∨((now<x)∧(x≤now+500)∧(x≤1099511627776)∧(¬ 0≤y))∨((now<x)∧(x≤now+500)∧(x≤1099511627776)∧(0≤y)∧(¬ y<200))∨((now<x)∧(x≤now+500)∧(x≤1099511627776)∧(0≤y)∧(y<200)) by (rcases (show (¬ now<x)∨(now<x) by omega) with hx0|hx0;exact Or.inl hx0;(rcases (show (¬ x≤now+500)∨(x≤now+500) by omega) with hx1|hx1;exact Or.inr (Or.inl ⟨hx0,hx1⟩);(rcases (show (¬ x≤1099511627776)∨(x≤1099511627776) by omega) with hx2|hx2;exact Or.inr (Or.inr (Or.inl ⟨hx0,hx1,hx2⟩));(rcases (show (¬ 0≤y)∨(0≤y) by omega) with hx3|hx3;exact Or.inr (Or.inr (Or.inr (Or.inl ⟨hx0,hx1,hx2,hx3⟩)));(rcases (show (¬ y<200)∨(y<200) by omega) with hx4|hx4;exact Or.inr (Or.inr (Or.inr (Or.inr (Or.inl ⟨hx0,hx1,hx2,hx3,hx4⟩))));exact Or.inr (Or.inr (Or.inr (Or.inr (Or.inr (⟨hx0,hx1,hx2,hx3,hx4⟩))))))))))) with hs0|⟨hs0,hs1⟩|⟨hs0,hs1,hs2⟩|⟨hs0,hs1,hs2,hs3⟩|⟨hs0,hs1,hs2,hs3,hs4⟩|⟨hs0,hs1,hs2,hs3,hs4⟩
 ·have:r=false:=by rcases hr with ⟨h,_⟩|⟨_,h⟩;omega;exact h
  exact Q163
 ·have:r=false:=by rcases hr with ⟨h,_⟩|⟨_,h⟩;omega;exact h
  subst this;clear hr;have d0:decide (x≤now+500)=false:=by simpa using hs1
  go_enter Tryz.func126,Tryz.ntmps126;go_wp2
  all_goals exact Zf
 ·have:r=false:=by rcases hr with ⟨h,_⟩|⟨_,h⟩;omega;exact h
  subst this;clear hr;have d0:decide (x≤1099511627776)=false:=by simpa using hs2
  go_enter Tryz.func126,Tryz.ntmps126;go_wp2
  all_goals exact Zf
 ·have:r=false:=by rcases hr with ⟨h,_⟩|⟨_,h⟩;omega;exact h
  subst this;clear hr;have d0:decide (0≤y)=false:=by simpa using hs3
  go_enter Tryz.func126,Tryz.ntmps126;go_wp2
  all_goals exact Zf
 ·have:r=false:=by rcases hr with ⟨h,_⟩|⟨_,h⟩;omega;exact h
  subst this;clear hr;have d0:decide (y<200)=false:=by simpa using hs4
  go_enter Tryz.func126,Tryz.ntmps126;go_wp2
  all_goals exact Zf
 ·have:r=true:=by rcases hr with ⟨_,h⟩|⟨h,_⟩;exact h;omega
  exact Q163
def kr (b:Int) (x:Ld):Bool:=x.backend == b && decide (0<x.weight)
def jA (L:List Ld) (C:List Int) (i:Nat):Bool:=decide ((L.getD i Ld.zero).flows<C.getD i 0)
def dI (L:List Ld) (C:List Int):List Int→Int→Int
 | [],_=>-1
 | b :: bs,t=>if aQ (kr b) L<0 then dI L C bs t else if t=0 then -1 else if jA L C (aQ (kr b) L).toNat=true then aQ (kr b) L else dI L C bs (t - 1)
def qj (L:List Ld) (C:List Int) (i:Nat):Prop:=0<(L.getD i Ld.zero).weight∧jA L C i=true
def rX (L:List Ld) (i:Nat):Int:=(L.getD i Ld.zero).flows
def ri (L:List Ld) (i:Nat):Int:=(L.getD i Ld.zero).weight
def eB (L:List Ld) (C:List Int) (a n:Nat) (b:Int):Prop:=(b=-1∧∀ i,a≤i→i<n→¬ qj L C i)∨∃ m:Nat,b=m∧a≤m∧m<n∧qj L C m∧(∀ i,a≤i→i<n→qj L C i→rX L m*ri L i≤rX L i*ri L m)∧(∀ i,a≤i→i<m→qj L C i→rX L m*ri L i<rX L i*ri L m)
theorem wN {fk wk fb wb fi wi:Int} (hk:0<wk) (hb:0<wb) (hi:0<wi) (h1:fk*wb<fb*wk) (h2:fb*wi≤fi*wb):fk*wi<fi*wk:=by
 have a1:fk*wb*wi<fb*wk*wi:=Int.mul_lt_mul_of_pos_right h1 hi;have a2:fb*wi*wk≤fi*wb*wk:=Int.mul_le_mul_of_nonneg_right h2 (Int.le_of_lt hk)
 have a3:fk*wi*wb<fi*wk*wb:=by
  have e1:fk*wi*wb=fk*wb*wi:=by rw [Int.mul_right_comm]
  have e2:fb*wk*wi=fb*wi*wk:=by rw [Int.mul_right_comm]
  have e3:fi*wk*wb=fi*wb*wk:=by rw [Int.mul_right_comm]
  omega
 exact Int.lt_of_mul_lt_mul_right a3 (Int.le_of_lt hb)
section
variable {L:List Ld} {C:List Int}
theorem qR (n:Nat):eB L C n n (-1):=Or.inl ⟨rfl,fun i h1 h2=>by omega⟩
theorem lZ {k:Nat} {b:Int} (h:eB L C 0 k b) (hk:¬ qj L C k):eB L C 0 (k+1) b:=by
 rcases h with ⟨rfl,h⟩|⟨m,rfl,h1,h2,h3,h4,h5⟩
 ·exact Or.inl ⟨rfl,fun i a c=>by rcases (show i<k∨i=k by omega) with h'|rfl;exact h i a h';exact hk⟩
 ·exact Or.inr ⟨m,rfl,h1,by omega,h3,fun i a c d=>by rcases (show i<k∨i=k by omega) with h'|rfl;exact h4 i a h' d;exact absurd d hk,h5⟩
theorem kD {k:Nat} {b:Int} (h:eB L C 0 k b) (hk:qj L C k) (hn:b<0∨rX L k*ri L b.toNat<rX L b.toNat*ri L k):eB L C 0 (k+1) k:=by
 rcases h with ⟨rfl,h⟩|⟨m,rfl,h1,h2,h3,h4,h5⟩
 ·refine Or.inr ⟨k,rfl,by omega,by omega,hk,fun i a c d=>?_,fun i a c d=>absurd d (h i a c)⟩;rcases (show i<k∨i=k by omega) with h'|rfl
  ·exact absurd d (h i a h')
  ·exact Int.le_refl _
 ·have hlt:rX L k*ri L m<rX L m*ri L k:=by
   rcases hn with hn|hn
   ·omega
   ·simpa using hn
  refine Or.inr ⟨k,rfl,by omega,by omega,hk,fun i a c d=>?_,fun i a c d=>wN hk.1 h3.1 d.1 hlt (h4 i a c d)⟩;rcases (show i<k∨i=k by omega) with h'|rfl
  ·exact Int.le_of_lt (wN hk.1 h3.1 d.1 hlt (h4 i a h' d))
  ·exact Int.le_refl _
theorem mT {k:Nat} {b:Int} (h:eB L C 0 k b) (hn:0≤b) (hn2:¬ rX L k*ri L b.toNat<rX L b.toNat*ri L k):eB L C 0 (k+1) b:=by
 rcases h with ⟨rfl,h⟩|⟨m,rfl,h1,h2,h3,h4,h5⟩
 ·omega
 ·refine Or.inr ⟨m,rfl,h1,by omega,h3,fun i a c d=>?_,h5⟩;rcases (show i<k∨i=k by omega) with h'|rfl
  ·exact h4 i a h' d
  ·simp at hn2;exact hn2
theorem Eb {n:Nat} {b b':Int} (h:eB L C 0 n b) (h':eB L C 0 n b'):b=b':=by
 rcases h with ⟨rfl,h⟩|⟨m,rfl,_,h2,h3,h4,h5⟩<;>rcases h' with ⟨rfl,k⟩|⟨m',rfl,_,k2,k3,k4,k5⟩
 ·rfl
 ·exact absurd k3 (h m' (by omega) k2)
 ·exact absurd h3 (k m (by omega) h2)
 ·rcases (show m<m'∨m=m'∨m'<m by omega) with c|c|c
  ·have a1:=k5 m (by omega) c h3;have a2:=h4 m' (by omega) k2 k3;omega
  ·rw [c]
  ·have a1:=h5 m' (by omega) c k3;have a2:=k4 m (by omega) h2 h3;omega
theorem zJ {n:Nat} {b:Int} (h:eB L C 0 n b):b=-1∨∃ m:Nat,b=m∧m<n:=by
 rcases h with ⟨rfl,h⟩|⟨m,rfl,_,h2,_⟩
 ·exact Or.inl rfl
 ·exact Or.inr ⟨m,rfl,h2⟩
theorem qU:∀ (bs:List Int) (t:Int),dI L C bs t=-1∨∃ m:Nat,dI L C bs t=m∧m<L.length
 | [],_=>Or.inl rfl
 | b :: bs,t=>by
  unfold dI
  split
  ·exact qU bs t
  ·split
   ·exact Or.inl rfl
   ·split
    ·rcases bJ (kr b) L Ld.zero with ⟨hi,_⟩|⟨i,hi,he,_⟩
     ·omega
     ·exact Or.inr ⟨i,he,hi⟩
    ·exact qU bs (t - 1)
theorem yI {Wk:List Int} {k:Nat} (hk:k<Wk.length) (t:Int):dI L C (Wk.drop k) t=if aQ (kr (Wk.getD k 0)) L<0 then dI L C (Wk.drop (k+1)) t else if t=0 then -1 else if jA L C (aQ (kr (Wk.getD k 0)) L).toNat=true then aQ (kr (Wk.getD k 0)) L else dI L C (Wk.drop (k+1)) (t - 1):=by
 have e:Wk.drop k=Wk.getD k 0 :: Wk.drop (k+1):=by rw [List.drop_eq_getElem_cons hk];simp [List.getD,hk]
 rw [e]
 rfl
end
def zP (Wk:List Int) (L:List Ld) (num den flows tries:Int) (b code:Int):Prop:=
 (∃ Y,mZ L num den flows Y code∧code≠0∧b=0)∨
 (ez L∧gH num den flows∧(tries<0∨(0≤tries∧12<tries)∨(0≤tries∧tries≤12∧12<Wk.length))∧b=0∧code=2)∨
 (ez L∧gH num den flows∧0≤tries∧tries≤12∧Wk.length≤12∧(∀ x∈L,¬ 0<x.weight)∧b=0∧code=11)∨
 (ez L∧gH num den flows∧0≤tries∧tries≤12∧Wk.length≤12∧(∃ x∈L,0<x.weight)∧
  ((∃ m:Nat,m<L.length∧dI L (cq L num den flows) Wk tries=m∧b=(L.getD m Ld.zero).backend∧code=0)∨
   (dI L (cq L num den flows) Wk tries=-1∧∃ m:Nat,m<L.length∧eB L (cq L num den flows) 0 L.length m∧b=(L.getD m Ld.zero).backend∧code=0)∨
   (dI L (cq L num den flows) Wk tries=-1∧eB L (cq L num den flows) 0 L.length (-1)∧b=0∧code=9)))
def nG (C:List Int):List (List Value):=C.map fun x=>[Value.int .i64 x]
theorem vX {w:World} {v:Value} {C:List Int} (h:aI w 1 v (nG C)):∃ (a:Option Addr) (cap:Nat),v=.slice a C.length cap∧(C≠[]→∃ b off,a=some ⟨b,off,none⟩∧b<w.heap.size∧∀ i,i<C.length→w.cell? ⟨b,off+i,none⟩=some (.int .i64 (C.getD i 0))):=by
 obtain ⟨a,cap,rfl,_,_,_,h6⟩:=aK 0 h;refine ⟨a,cap,rfl,fun hne=>?_⟩;obtain ⟨b,off,rfl,h7,h8⟩:=h6 hne;exact ⟨b,off,rfl,h7,fun i hi=>by have:=h8 i 0 hi (by omega);simpa using this⟩
theorem of1 (x:Ld) (b:Nat) (backend:Int) (w:World) (h:w.cell? ⟨b,0,none⟩=some (.int .i64 backend)):Calls Tryz.prog 178 #[Ld.agg x,.pointer (some ⟨b,0,none⟩)] w fun e w'=>e=.returned (.bool (kr backend x))∧Below w.heap.size w w':=by
 obtain ⟨bk,wt,fl⟩:=x;have lb:=bR h;unfold Ld.agg;by_cases h1:bk=backend
 ·subst h1;by_cases h2:0<wt
  ·have HV:Hid (true=kr bk ⟨bk,wt,fl⟩):=by simp [Hid,kr,h2]
   exact Q94
  ·have HV:Hid (false=kr bk ⟨bk,wt,fl⟩):=by simp [Hid,kr,h2]
   have hd:decide (0<wt)=false:=by simpa using h2
   exact Q94
 ·have HV:Hid (false=kr backend ⟨bk,wt,fl⟩):=by simp [Hid,kr,h1]
  have hd:(bk == backend)=false:=by simpa using h1
  clear h1;exact Q94
theorem pa (v cv:Value) (L:List Ld) (b:Int) (w:World) (hv:aI w 3 v (L.map Ld.cells)) (hn:L.length≤12) (hcv:∃ a n c,cv=.slice a n c) :
  Calls Tryz.prog 160 #[.agg #[v,cv],.int .i64 b] w fun e w'=>e=.returned (.int .i64 (aQ (kr b) L))∧Below w.heap.size w w':=by
 have R:=Hu hv
 obtain ⟨a,c,rfl,_⟩:=aq hv
 obtain ⟨a',n',c',rfl⟩:=hcv
 clear hv
 go_enter Tryz.func160,Tryz.ntmps160
 go_wp2_with fail
 refine (B7 178 ⟨w.heap.size+1,0,none⟩ (fun _ _=>rfl) (kr b) _ L _ (ai (ai R.out _) _) (by omega) (fun x _ w' hb'=>of1 x _ b w' (aA hb' (by go_simp)))).mono ?_
 rintro e w1 ⟨rfl,hb1⟩
 have B1:=Hu (((((Hv w.heap.size w).alloc (I3 _) _).alloc (by simp) _)).trans (hb1.mono (by simp;omega)))
 clear hb1
 go_wp2
 all_goals first|(go_ret;exact ⟨rfl,B1.out⟩)|exact Zx
theorem jf (v cv:Value) (L:List Ld) (C:List Int) (i:Nat) (w:World) (hv:aI w 3 v (L.map Ld.cells)) (hc:aI w 1 cv (nG C)) (hi:i<L.length) (hl:C.length=L.length) :
  Calls Tryz.prog 161 #[.agg #[v,cv],.int .i64 i] w fun e w'=>e=.returned (.bool (jA L C i))∧Below w.heap.size w w':=by
 obtain ⟨a,c,rfl,_,_,_,p⟩:=aK Ld.zero hv
 obtain ⟨b0,o0,rfl,hb0,q⟩:=p (by intro h;rw [h] at hi;simp at hi)
 obtain ⟨a',c',rfl,p'⟩:=vX hc
 obtain ⟨b1,o1,rfl,hb1,q'⟩:=p' (by intro h;rw [h] at hl;simp at hl;omega)
 have a2:=q i 2 hi (by omega)
 have d0:=q' i (by omega)
 have HV:Hid (decide ((L.getD i Ld.zero).flows<C.getD i 0)=jA L C i):=rfl
 have hi':(i:Int)<(L.length:Int):=by omega
 have hi2:(i:Int)<(C.length:Int):=by omega
 have p0:(0:Int)≤(i:Int):=by omega
 generalize (L.getD i Ld.zero)=s at a2 HV
 generalize C.getD i 0=cc at d0 HV
 obtain ⟨bk,wt,fl⟩:=s
 simp only [Ld.cells,I5,I6] at a2 HV
 clear q q' p p' hv hc
 go_enter Tryz.func161,Tryz.ntmps161
 go_wp2_with fail
 go_quiet (fail)
 go_wp2
 all_goals first|(go_ret;exact ⟨rB HV.out,Zb⟩)|exact Zx
theorem lR (v cv wv:Value) (L:List Ld) (C Wk:List Int) (tries:Int) (w:World) (hv:aI w 3 v (L.map Ld.cells)) (hc:aI w 1 cv (nG C)) (hw:aI w 1 wv (nG Wk)) (hn:L.length≤12) (hl:C.length=L.length) (hk:Wk.length≤12) (t0:0≤tries) (t1:tries≤12) :
  Calls Tryz.prog 139 #[.agg #[v,cv],wv,.int .i64 tries] w fun e w'=>e=.returned (.int .i64 (dI L C Wk tries))∧Below w.heap.size w w':=by
 have RV:=Hu hv
 have RC:=Hu hc
 obtain ⟨a,c,rfl,_⟩:=aq hv
 obtain ⟨a',c',rfl,_⟩:=vX hc
 obtain ⟨a2,c2,rfl,pw⟩:=vX hw
 have PW:=Hu pw
 have HLen:=Hu hl
 clear hv hc hw pw hl
 go_enter Tryz.func139,Tryz.ntmps139
 go_wp2
 go_step3
 go_wp2
 go_step3
 go_wp2
 go_loopw [2,7,13] (fun t f i wr=>∃ (k:Nat) (tv:Int),k≤Wk.length∧i=.int .i64 k∧t=.int .i64 tv∧f=.int .i64 (-1)∧0≤tv∧tv≤12∧dI L C Wk tries=dI L C (Wk.drop k) tv∧Below w.heap.size w wr∧w.heap.size<wr.heap.size∧wr.cell? ⟨w.heap.size,0,none⟩=some (.slice a L.length c)∧wr.cell? ⟨w.heap.size,1,none⟩=some (.slice a' C.length c')) (fun _ _ i _=>Wk.length - (intOf i).toNat)
 case atStart=>exact ⟨0,tries,I4 _,rfl,rfl,rfl,t0,t1,rfl,(Hv _ _).alloc (I3 _) _,by simp,by go_simp,by go_simp⟩
 case round=>
  obtain ⟨k,tv,hk',rfl,rfl,rfl,t2,t3,hal,hb,hsz,c0,c1⟩:=hrel;have HA:=Hu hal;have HB:=Hu hb;clear hal;rcases (show k<Wk.length∨Wk.length=k by omega) with hlt|heq
  ·have hlt':(k:Int)<(Wk.length:Int):=by omega
   obtain ⟨b0,o0,rfl,hb0,q⟩:=PW.out (by intro h;rw [h] at hlt;simp at hlt);obtain ⟨b,hbk⟩:∃ b,b=Wk.getD k 0:=⟨_,rfl⟩
   have a0:wr.cell? ⟨b0,o0+k,none⟩=some (.int .i64 b):=by rw [hb.cell (p:=⟨b0,o0+k,none⟩) hb0,hbk];exact q k hlt
   have HD:=Hu (yI (L:=L) (C:=C) hlt tv);rw [← hbk] at HD;have R1:=Hu (au RV.out hb);have R2:=Hu (au RC.out hb);clear hb hbk q;rcases bJ (kr b) L Ld.zero with ⟨hi,_⟩|⟨i,hi,he,_⟩
   ·have HI:=Hu hi
    have HN:Hid (dI L C Wk tries=dI L C (Wk.drop (k+1)) tv):=by show _=_;rw [HA.out,HD.out,if_pos (by omega)]
    clear hi;go_wp2_with fail;refine (pa _ _ L b _ R1.out hn ⟨_,_,_,rfl⟩).mono ?_;rintro e w1 ⟨rfl,hb1⟩;rw [HI.out];have B1:=Hu (HB.out.trans (hb1.mono (Nat.le_of_lt hsz)));have e0:=Hu (aA hb1 c0);have e1:=Hu (aA hb1 c1);have s1:=hb1.size;clear hb1;go_wp2;go_roundw
    case rel=>exact ⟨k+1,tv,by omega,by go_num,rfl,rfl,t2,t3,HN.out,B1.out,by omega,e0.out,e1.out⟩
    case measure=>simp [intOf];omega
   ·have HI:=Hu he;have i0:¬ (i:Int)<0:=by omega
    rw [he] at HD;simp only [Id,if_neg i0] at HD;clear he;rcases (show tv=0∨0<tv by omega) with rfl|htv
    ·have HN:Hid (dI L C Wk tries=-1):=by show _=_;rw [HA.out];have:=HD.out;rw [if_pos rfl] at this;exact this
     go_wp2_with fail;refine (pa _ _ L b _ R1.out hn ⟨_,_,_,rfl⟩).mono ?_;rintro e w1 ⟨rfl,hb1⟩;rw [HI.out];have B1:=Hu (HB.out.trans (hb1.mono (Nat.le_of_lt hsz)));clear hb1;go_wp2
     all_goals first|(go_ret;exact ⟨rI HN.out.symm,B1.out⟩)|(simp only [Exit.noGoto];go_ret;exact ⟨rI HN.out.symm,B1.out⟩)
    ·have htz:(tv == 0)=false:=by simp;omega
     have ht2:¬ tv=0:=by omega
     by_cases hr:jA L C i=true
     ·have HN:Hid (dI L C Wk tries=i):=by show _=_;rw [HA.out];have:=HD.out;rw [if_neg ht2] at this;simpa [hr] using this
      have HRm:=Hu hr;clear hr;go_wp2_with fail;refine (pa _ _ L b _ R1.out hn ⟨_,_,_,rfl⟩).mono ?_;rintro e w1 ⟨rfl,hb1⟩;rw [HI.out];have B1:=Hu (HB.out.trans (hb1.mono (Nat.le_of_lt hsz)));have e0:=aA hb1 c0;have e1:=aA hb1 c1;have Q1:=Hu (au R1.out hb1);have Q2:=Hu (au R2.out hb1);clear hb1;go_wp2_with fail;refine (jf _ _ L C i _ Q1.out Q2.out hi HLen.out).mono ?_;rintro e w2 ⟨rfl,hb2⟩;rw [HRm.out];have B2:=Hu (B1.out.trans (hb2.mono B1.out.size));clear hb2;go_wp2
      all_goals first|(go_ret;exact ⟨rI HN.out.symm,B2.out⟩)|(simp only [Exit.noGoto];go_ret;exact ⟨rI HN.out.symm,B2.out⟩)
     ·have hr':jA L C i=false:=by simpa using hr
      have HN:Hid (dI L C Wk tries=dI L C (Wk.drop (k+1)) (tv - 1)):=by show _=_;rw [HA.out];have:=HD.out;rw [if_neg ht2] at this;simpa [hr] using this
      have HRm:=Hu hr';clear hr hr';go_wp2_with fail;refine (pa _ _ L b _ R1.out hn ⟨_,_,_,rfl⟩).mono ?_;rintro e w1 ⟨rfl,hb1⟩;rw [HI.out];have B1:=Hu (HB.out.trans (hb1.mono (Nat.le_of_lt hsz)));have e0:=aA hb1 c0;have e1:=aA hb1 c1;have Q1:=Hu (au R1.out hb1);have Q2:=Hu (au R2.out hb1);have s1:=hb1.size;clear hb1;go_wp2_with fail;refine (jf _ _ L C i _ Q1.out Q2.out hi HLen.out).mono ?_;rintro e w2 ⟨rfl,hb2⟩;rw [HRm.out];have B2:=Hu (B1.out.trans (hb2.mono B1.out.size));have g0:=Hu (aA hb2 e0);have g1:=Hu (aA hb2 e1);have s2:=hb2.size;clear hb2;go_wp2;go_roundw
      case rel=>exact ⟨k+1,tv - 1,by omega,by go_num,by go_num,rfl,by omega,by omega,HN.out,B2.out,by omega,g0.out,g1.out⟩
      case measure=>simp [intOf];omega
  ·have hge:¬ (k:Int)<(Wk.length:Int):=by omega
   have HN:Hid (dI L C Wk tries=-1):=by show _=_;rw [HA.out,List.drop_eq_nil_of_le (by omega)];rfl
   clear hb heq;go_wp2
   all_goals first|(go_ret;exact ⟨rI HN.out.symm,HB.out⟩)|exact Zx
theorem D8 {L:List Ld} (h:ez L) {i:Nat} (hi:i<L.length):0≤(L.getD i Ld.zero).weight∧(L.getD i Ld.zero).weight≤8∧0≤(L.getD i Ld.zero).flows∧(L.getD i Ld.zero).flows≤40:=by
 have:=h.2 i hi;unfold nR at this;exact ⟨this.2.2.1,this.2.2.2.1,this.2.2.2.2.1,this.2.2.2.2.2⟩
theorem vA {a b:Int} (h1:0≤a) (h2:a≤40) (h3:0≤b) (h4:b≤8):IntKind.i64.wrap (a*b)=a*b:=by
 have:=j3 h1 h2 h3 h4;exact Iw _ (by omega)
def LsRel (w wr:World) (v cv:Value) (L:List Ld) (C:List Int) (k:Nat) (b:Int):Prop:=k≤L.length∧eB L C 0 k b∧Below w.heap.size w wr∧w.heap.size<wr.heap.size∧wr.cell? ⟨w.heap.size,0,none⟩=some v∧wr.cell? ⟨w.heap.size,1,none⟩=some cv
theorem pX (v cv:Value) (L:List Ld) (C:List Int) (b:Int) (w:World) (hv:aI w 3 v (L.map Ld.cells)) (hc:aI w 1 cv (nG C)) (hm:ez L) (hl:C.length=L.length) (hB:eB L C 0 L.length b) :
  Calls Tryz.prog 140 #[.agg #[v,cv]] w fun e w'=>e=.returned (.int .i64 b)∧Below w.heap.size w w':=by
 have RV:=Hu hv
 have RC:=Hu hc
 have HBst:=Hu hB
 have HM:=Hu hm
 have h12:=hm.1
 obtain ⟨a,c,rfl,_,_,_,p⟩:=aK Ld.zero hv
 have P:=Hu p
 obtain ⟨a',c',rfl,_⟩:=vX hc
 have HLen:=Hu hl
 clear hv hc hB hm p hl
 go_enter Tryz.func140,Tryz.ntmps140
 go_wp2
 go_loopw [3,9] (fun t i wr=>∃ (k:Nat) (bv:Int),i=.int .i64 k∧t=.int .i64 bv∧LsRel w wr (.slice a L.length c) (.slice a' C.length c') L C k bv) (fun _ i _=>L.length - (intOf i).toNat)
 case atStart=>exact ⟨0,-1,rfl,rfl,I4 _,qR 0,(Hv _ _).alloc (I3 _) _,by simp,by go_simp,by go_simp⟩
 case round=>
  obtain ⟨k,bv,rfl,rfl,hk,hbst,hb,hsz,c0,c1⟩:=hrel;have HS:=Hu hbst;have HB:=Hu hb;rcases (show k<L.length∨L.length=k by omega) with hlt|heq
  ·have hlt':(k:Int)<(L.length:Int):=by omega
   have p0:(0:Int)≤(k:Int):=by omega
   obtain ⟨b0,o0,rfl,hb0,q⟩:=P.out (by intro h;rw [h] at hlt;simp at hlt)
   have hq:∀ i j,i<L.length→j<3→wr.cell? ⟨b0,o0+i*3+j,none⟩=(L.getD i Ld.zero).cells[j]?:=fun i j hi hj=>by
    rw [hb.cell (p:=⟨b0,o0+i*3+j,none⟩) hb0];exact q i j hi hj
   have HQ:=Hu hq;obtain ⟨s,hs⟩:∃ s,s=L.getD k Ld.zero:=⟨_,rfl⟩;have HSs:=Hu hs;have a0:=hq k 0 hlt (by omega);have a1:=hq k 1 hlt (by omega);have a2:=hq k 2 hlt (by omega);have bd:=D8 HM.out hlt;rw [← hs] at a0 a1 a2 bd;have lt:=zJ hbst;have Q1:=Hu (au RV.out hb);have Q2:=Hu (au RC.out hb);clear hs hq q hb hbst;obtain ⟨bk,wt,fl⟩:=s;simp only [Ld.cells,I5,I6,Nat.add_zero] at a0 a1 a2 bd;obtain ⟨bd0,bd1,bd2,bd3⟩:=bd;have lb:b0<wr.heap.size:=bR a0
   have hW:Hid (ri L k=wt):=by show _=_;unfold ri;rw [← HSs.out]
   have hF:Hid (rX L k=fl):=by show _=_;unfold rX;rw [← HSs.out]
   rcases (show wt=0∨0<wt by omega) with rfl|hwt
   ·have HN:Hid (eB L C 0 (k+1) bv):=lZ HS.out (fun h=>by have h1:=h.1;have h2:=hW.out;unfold ri at h2;omega);go_wp2;go_roundw
    case rel=>exact ⟨k+1,bv,by go_num,rfl,by omega,HN.out,HB.out.alloc (by omega) _,by simp;omega,aE _ c0,aE _ c1⟩
    case measure=>simp [intOf];omega
   ·have hwz:(wt == 0)=false:=by simp;omega
    by_cases hr:jA L C k=true;rotate_left
    ·have hr':jA L C k=false:=by simpa using hr
     have HRm:=Hu hr';have HN:Hid (eB L C 0 (k+1) bv):=lZ HS.out (fun h=>hr h.2);clear hr hr';go_wp2_with (first|(go_at_call 161;refine (jf _ _ L C k _ (ai Q1.out _) (ai Q2.out _) hlt HLen.out).mono ?_;rintro e w1 ⟨rfl,hb1⟩;rw [HRm.out]));have hbx:Hid (Below wr.heap.size wr w1):=((Hv _ _).alloc (I3 _) _).trans (hb1.mono (by simp));have s1:=hb1.size;simp at s1;clear hb1;go_wp2;go_roundw
     case rel=>exact ⟨k+1,bv,by go_num,rfl,by omega,HN.out,HB.out.trans (hbx.out.mono (by omega)),by omega,aA hbx.out c0,aA hbx.out c1⟩
     case measure=>simp [intOf];omega
    ·have HOk:Hid (qj L C k):=⟨by have h2:=hW.out;unfold ri at h2;omega,hr⟩;have HRm:=Hu hr;clear hr;rcases lt with rfl|⟨m,rfl,hmk⟩
     ·have HN:Hid (eB L C 0 (k+1) k):=kD HS.out HOk.out (Or.inl (by omega));go_wp2_with (first|(go_at_call 161;refine (jf _ _ L C k _ (ai Q1.out _) (ai Q2.out _) hlt HLen.out).mono ?_;rintro e w1 ⟨rfl,hb1⟩;rw [HRm.out]));have hbx:Hid (Below wr.heap.size wr w1):=((Hv _ _).alloc (I3 _) _).trans (hb1.mono (by simp));have hE:=aj hb1 (az (w:=wr) (.cells #[.int .i64 bk,.int .i64 wt,.int .i64 fl] 189) rfl) (by simp);have x1:=ae hE 1;have x2:=ae hE 2;simp at x1 x2;have s1:=hb1.size;simp at s1;have y0:=aA hbx.out c0;have y1:=aA hbx.out c1;clear hb1 hE;exact Q76
     ·have hmL:m<L.length:=by omega
      have hm':(m:Int)<(L.length:Int):=by omega
      have p1:(0:Int)≤(m:Int):=by omega
      obtain ⟨s,hs⟩:∃ s,s=L.getD m Ld.zero:=⟨_,rfl⟩;have d1:=HQ.out m 1 hmL (by omega);have d2:=HQ.out m 2 hmL (by omega);have be:=D8 HM.out hmL;rw [← hs] at d1 d2 be
      have hWm:Hid (ri L m=s.weight):=by show _=_;unfold ri;rw [← hs]
      have hFm:Hid (rX L m=s.flows):=by show _=_;unfold rX;rw [← hs]
      clear hs;obtain ⟨bm,wm,fm⟩:=s;simp only [Ld.cells,I5,I6] at d1 d2 be;obtain ⟨be0,be1,be2,be3⟩:=be;have z1:=vA bd2 bd3 be0 be1;have z2:=vA be2 be3 bd0 bd1;obtain ⟨P1,hP1⟩:∃ P1,P1=fl*wm:=⟨_,rfl⟩;obtain ⟨P2,hP2⟩:∃ P2,P2=fm*wt:=⟨_,rfl⟩
      have HP:Hid (rX L k*ri L m=P1∧rX L m*ri L k=P2):=by
       rw [Hid,hF.out,hW.out,hFm.out,hWm.out,hP1,hP2];exact ⟨rfl,rfl⟩
      go_wp2_with (first|(go_at_call 161;refine (jf _ _ L C k _ (ai Q1.out _) (ai Q2.out _) hlt HLen.out).mono ?_;rintro e w1 ⟨rfl,hb1⟩;rw [HRm.out]));have hbx:Hid (Below wr.heap.size wr w1):=((Hv _ _).alloc (I3 _) _).trans (hb1.mono (by simp));have hE:=aj hb1 (az (w:=wr) (.cells #[.int .i64 bk,.int .i64 wt,.int .i64 fl] 189) rfl) (by simp);have x1:=ae hE 1;have x2:=ae hE 2;simp at x1 x2;have s1:=hb1.size;simp at s1;have y0:=aA hbx.out c0;have y1:=aA hbx.out c1;have u1:=aA hbx.out d1;have u2:=aA hbx.out d2;clear hb1 hE;have hm0:¬ (m:Int)<0:=by omega
      have hd0:decide ((m:Int)<0)=false:=by simp
      by_cases hc:P1<P2
      ·have hc':fl*wm<fm*wt:=by rw [← hP1,← hP2];exact hc
       have HN:Hid (eB L C 0 (k+1) k):=kD HS.out HOk.out (Or.inr (by have h:=HP.out;simp only [Id];rw [h.1,h.2];exact hc));clear hc hP1 hP2;exact Q76
      ·have hc':fm*wt≤fl*wm:=by rw [← hP1,← hP2];omega
       have hcd:decide (fl*wm<fm*wt)=false:=by simpa using hc'
       have HN:Hid (eB L C 0 (k+1) m):=mT HS.out (by omega) (by have h:=HP.out;simp only [Id];rw [h.1,h.2];exact hc);clear hc hP1 hP2;go_wp2_with fail;go_quiet (fail);go_wp2;go_roundw
       case rel=>exact ⟨k+1,m,by go_num,rfl,by omega,HN.out,aJ (HB.out.trans (hbx.out.mono (by omega))),by simp;omega,by simpa using y0,by simpa using y1⟩
       case measure=>simp [intOf];omega
  ·have hge:¬ (k:Int)<(L.length:Int):=by omega
   have HE:Hid (bv=b):=by rw [← heq] at hbst;exact Eb hbst HBst.out
   clear hb hbst heq;go_wp2
   all_goals first|(go_ret;exact ⟨rI HE.out,HB.out⟩)|exact Zx
end
end Go.Proofs.YtfliffgmeobclaaGreat
