/- Texts of the row's proof. Conditions: none. -/
import Derived.BigQuiet
import Derived.Test.YtocbhafgjepnjaaGreatK07
namespace Go.Proofs.YtocbhafgjepnjaaGreat
set_option maxRecDepth 100000
set_option maxHeartbeats 8000000
section
open Go.RowKit
theorem Q7 {p:Prop} (h:p:=by
 obtain ⟨at1,ct1,rfl,_⟩:=aj R2'.out.1;rw [show (fA N).length=N from by simp [fA]] at R2' ⊢;have c0:=ai KB x0.out m0;have c1:=ai KB x1.out m1;have C0:=Ib c0;have C1:=Ib c1;have XW:=Ib xw;have XM:=Ib xm;have K2:=Ib KB;have d10:=aa c0 10;have d11:=aa c0 11;have d12:=aa c0 12;have y17:=aa xw 17;have yf17:=ap xw 17;simp only [jV,Io,Im,Il] at d10 d11 d12 y17;have nn0:w.heap.size≠bw:=by omega
 clear c0 c1 xw xm KB;go_wp2_with fail;have KA:=Ib (K2.out.setCell (p:=⟨bw,17,none⟩) nb6 (.slice at1 N ct1));have XA:=Ib (aP (j:=17) XW.out (.slice at1 N ct1));have RA:=Ib (aA (p:=⟨bw,17,none⟩) R2'.out nb3 (.slice at1 N ct1));have XMA:=Ib (aU (j:=17) (u:=(.slice at1 N ct1)) XM.out nb4.symm);generalize w2.setCell ⟨bw,17,none⟩ (.slice at1 N ct1)=w3 at KA XA RA XMA ⊢;refine (tB _ _ _ _ HBd.out).mono ?_;rintro e w4 ⟨rfl,hb4⟩;have K4:=Ib (KA.out.trans (hb4.mono KA.out.size));have lw3:=lt_of_block XA.out;have X4:Hid (w4.heap[bw]?=some (.cells (jV (N:Int) num den tries warm drain idle connect retries most bn bd bb ww wf wh (.slice at1 N ct1) (.slice (some ⟨bm,0,none⟩) 12 12) 0 (.slice none 0 0)) 54 (0,0))):=ai hb4 XA.out lw3;have R4:=Ib (ig RA.out hb4);have M4:=Ib (ai hb4 XMA.out (lt_of_block XMA.out));have y23:=aa X4.out 23;have yf23:=ap X4.out 23;simp only [jV,Io,Im,Il] at y23;clear hb4 d10 d11 d12 y17 yf17;go_wp2_with fail;have KA5:=Ib (K4.out.setCell (p:=⟨bw,23,none⟩) nb6 (.int .i64 (bb*bd)));have XA5:=Ib (aP (j:=23) X4.out (.int .i64 (bb*bd)));have RA5:=Ib (aA (p:=⟨bw,23,none⟩) R4.out nb3 (.int .i64 (bb*bd)));have MA5:=Ib (aU (j:=23) (u:=.int .i64 (bb*bd)) M4.out nb4.symm);generalize w4.setCell ⟨bw,23,none⟩ (.int .i64 (bb*bd))=w5 at KA5 XA5 RA5 MA5 ⊢;refine (tz 0 _ (by omega) (by omega)).mono ?_;rintro e w6 ⟨vl,rfl,R6,hb6⟩;have K6:=Ib (KA5.out.trans (hb6.mono KA5.out.size));have X6:Hid (w6.heap[bw]?=some (.cells (jV (N:Int) num den tries warm drain idle connect retries most bn bd bb ww wf wh (.slice at1 N ct1) (.slice (some ⟨bm,0,none⟩) 12 12) (bb*bd) (.slice none 0 0)) 54 (0,0))):=ai hb6 XA5.out (lt_of_block XA5.out);have R6':=Ib (ig RA5.out hb6);have M6:=Ib (ai hb6 MA5.out (lt_of_block MA5.out));have lw5:=lt_of_block XA5.out;have L6:=Ib (aE (B':=bw+1) R6 (by omega));clear R6;obtain ⟨al1,cl1,rfl,_⟩:=oe L6.out.1;rw [show (tQ 25).length=25 from by simp [tQ]] at L6 ⊢;have y24:=aa X6.out 24;have yf24:=ap X6.out 24;have y25:=aa X6.out 25;have yf25:=ap X6.out 25;simp only [jV,Io,Im,Il] at y24 y25;have XF:Hid (((w6.setCell ⟨bw,24,none⟩ (.int .i64 0)).setCell ⟨bw,25,none⟩ (.slice al1 25 cl1)).heap[bw]?=some (.cells (jV (N:Int) num den tries warm drain idle connect retries most bn bd bb ww wf wh (.slice at1 N ct1) (.slice (some ⟨bm,0,none⟩) 12 12) (bb*bd) (.slice al1 25 cl1)) 54 (0,0))):=aP (j:=25) (aP (j:=24) X6.out (.int .i64 0)) (.slice al1 25 cl1);have C6:=Ib (aU (j:=25) (u:=(.slice al1 25 cl1)) (aU (j:=24) (u:=.int .i64 0) (ai K6.out x1.out m1) (show w.heap.size+1≠bw by omega)) (show w.heap.size+1≠bw by omega));have RF:=Ib (aA (p:=⟨bw,25,none⟩) (aA (p:=⟨bw,24,none⟩) R6'.out nb3 (.int .i64 0)) nb3 (.slice al1 25 cl1));have LF:=Ib (aA (p:=⟨bw,25,none⟩) (aA (p:=⟨bw,24,none⟩) L6.out (Nat.lt_succ_self bw) (.int .i64 0)) (Nat.lt_succ_self bw) (.slice al1 25 cl1));have MF:=Ib (aU (j:=25) (u:=(.slice al1 25 cl1)) (aU (j:=24) (u:=.int .i64 0) M6.out nb4.symm) nb4.symm);have KF:=Ib ((K6.out.setCell (p:=⟨bw,24,none⟩) nb6 (.int .i64 0)).setCell (p:=⟨bw,25,none⟩) nb6 (.slice al1 25 cl1));clear hb6;go_wp2_with (first|(refine t7 rfl 54 (.tmp 5) rfl bw rfl 54 (jV (N:Int) num den tries warm drain idle connect retries most bn bd bb ww wf wh (.slice at1 N ct1) (.slice (some ⟨bm,0,none⟩) 12 12) (bb*bd) (.slice al1 25 cl1)) (0,0) _ XF.out Tryz.underlying54 rfl (by kernel_rfl) ?_)|(refine IP rfl 54 (.tmp 2) (.tmp 34) rfl (w.heap.size+1) (jV (N:Int) num den tries warm drain idle connect retries most bn bd bb ww wf wh (.slice at1 N ct1) (.slice (some ⟨bm,0,none⟩) 12 12) (bb*bd) (.slice al1 25 cl1)) rfl rfl 54 bQ C6.out (by kernel_rfl) rfl (qm _ _ _ _ _ _ _ _ _ _ _ _ _ _ _ _ _ _ _ _ _ _ _ _ _ _) ?_));refine IM (v:=.tuple #[.agg (jV (N:Int) num den tries warm drain idle connect retries most bn bd bb ww wf wh (.slice at1 N ct1) (.slice (some ⟨bm,0,none⟩) 12 12) (bb*bd) (.slice al1 25 cl1)),.int .i64 0]) ?_ rfl ?_;rotate_left
 ·exact ⟨_,_,_,rfl,(lA RF.out nb7 _).1,hz_row (HHZ.out ▸ aZ MF.out (by omega)),(lA LF.out (by omega) _).1,aQ (B0.out.trans (KF.out.mono (by omega))) (by omega)⟩
 exact eQ Tryz.results26 _ _ (w.heap.size+1) 54 (jV (N:Int) num den tries warm drain idle connect retries most bn bd bb ww wf wh (.slice at1 N ct1) (.slice (some ⟨bm,0,none⟩) 12 12) (bb*bd) (.slice al1 25 cl1)) (0,0) _ _ rfl rfl (aX C6.out) Tryz.underlying54 rfl (by kernel_rfl)):p:=h
theorem Q43 {p:Prop} (h:p:=by
 go_wp2
 all_goals first|(go_ret;exact ⟨rI HCd.out.symm,B2.out⟩)|exact Zx):p:=h
theorem Q49 {p:Prop} (h:p:=by
 go_wp2
 all_goals first|(go_ret;exact ⟨rI (by first|exact HP.out|(have:=HP.out;simp;omega)|(have:=HP.out;omega)),Zb⟩)|exact Zx):p:=h
theorem Q76 {p:Prop} (h:p:=by
 have hn:¬ nM ⟨kd,ky,sl,gn,gd,rq,bk,wt⟩:=fun h=>by have:=HIn.out.2 h _ HMem.out;unfold Aa at this;simp only at this;omega
 rcases HC.out with ⟨h,_⟩|⟨_,_,h⟩|⟨_,h,_⟩|⟨_,h,_⟩
 ·exact absurd HY.out h
 ·exact h
 all_goals exact absurd h hn):p:=h
theorem Q79 {p:Prop} (h:p:=by
 go_wp2_with fail;go_quiet (fail);go_wp2;go_roundw
 case rel=>exact ⟨k+1,k,by go_num,rfl,by omega,HN.out,aI (HB.out.trans (hbx.out.mono (by omega))),by simp;omega,by simpa using y0,by simpa using y1⟩
 case measure=>simp [intOf];omega):p:=h
theorem Q90 {p:Prop} (h:p:=by
 go_wp2;refine IM (v:=.tuple #[.int .i64 bk,.int .i64 0]) ?_ rfl ?_;(focus (first|(simp [results,Tryz.results21,go_sem];done)|(simp [results,Tryz.results21,go_sem, *];done)));exact ⟨rfl,Zb⟩):p:=h
theorem Q97 {p:Prop} (h:p:=by
 go_enter Tryz.func112,Tryz.ntmps112;go_wp2
 all_goals first|(go_ret;exact ⟨rB HV.out,Zb⟩)|exact Zx):p:=h
theorem Q102 {p:Prop} (h:p:=by
 clear hc;go_wp2_with fail;go_quiet (fail);go_wp2
 all_goals first|(go_ret;exact ⟨rI HCd.out.symm,aI (B1.out.trans ((HB.out.alloc HB.out.size _).mono (by omega)))⟩)|exact Zx):p:=h
theorem Q158 {p:Prop} (h:p:=by
 rw [rounds_succ];go_wp2;go_quiet (fail);go_wp2;rw [rounds_succ];go_wp2;go_quiet (fail);exact Q49):p:=h
theorem Q162 {p:Prop} (h:p:=by
 rcases hf with rfl|rfl
 ·exact ⟨l1,(c 2).trans rfl⟩
 ·exact ⟨l1,(c 3).trans rfl⟩):p:=h
theorem Q169 {p:Prop} (h:p:=by
 subst this;clear hr;go_enter Tryz.func162,Tryz.ntmps162;go_wp2
 all_goals exact Zf):p:=h
def jo (L:List Ld) (i:Nat):Int:=if i=0 then -1 else (L.getD (i - 1) Ld.zero).backend
def mO (L:List Ld) (i:Nat):Prop:=jo L i<(L.getD i Ld.zero).backend∧(L.getD i Ld.zero).backend≤11∧0≤(L.getD i Ld.zero).weight∧(L.getD i Ld.zero).weight≤8∧0≤(L.getD i Ld.zero).flows∧(L.getD i Ld.zero).flows≤40
def eD (L:List Ld):Prop:=L.length≤12∧∀ i,i<L.length→mO L i
theorem vE {L:List Ld}:∀ {i:Nat},(∀ j,j<i→mO L j)→-1≤jo L i
 | 0,_=>by simp [jo]
 | i+1,h=>by
  have h1:=vE (i:=i) (fun j hj=>h j (by omega));have h2:=(h i (by omega)).1;simp only [jo,Nat.add_sub_cancel,if_neg (by omega:¬ i+1=0)];omega
theorem Dm {L:List Ld} {i:Nat} (h:∀ j,j<i→mO L j):jo L i≤11:=by
 cases i with
 | zero=>simp [jo]
 | succ i=>
  simp only [jo,Nat.add_sub_cancel,if_neg (by omega:¬ i+1=0)];exact (h i (by omega)).2.1
theorem pU (v:Value) (L:List Ld) (r:Bool) (w:World) (hv:aG w 3 v (L.map Ld.cells)) (hr:(eD L∧r=true)∨(¬ eD L∧r=false)) :
  Calls Tryz.prog 62 #[v] w fun e w'=>e=.returned (.bool r)∧Below w.heap.size w w':=by
 have HR:=Ib hr
 obtain ⟨a,c,rfl,l,m,n,p⟩:=aJ Ld.zero hv
 have P:=Ib p
 clear hv p l m n hr
 by_cases h12:L.length≤12
 rotate_left
 ·have g1:(12:Int)<(L.length:Int):=by omega
  obtain rfl:r=false:=by rcases HR.out with ⟨h,_⟩|⟨_,h⟩;exact absurd h.1 h12;exact h
  clear HR h12;go_enter Tryz.func62,Tryz.ntmps62;go_wp2
  all_goals exact Zf
 have g1:(L.length:Int)≤12:=by omega
 go_enter Tryz.func62,Tryz.ntmps62
 go_wp2
 go_loopw [3,11] (fun la i wr=>∃ k:Nat,k≤L.length∧i=.int .i64 k∧la=.int .i64 (jo L k)∧Below w.heap.size w wr∧∀ j,j<k→mO L j) (fun _ i _=>L.length - (intOf i).toNat)
 case atStart=>exact ⟨0,Ik _,rfl,rfl,Ic _ _,fun j hj=>by omega⟩
 case round=>
  obtain ⟨k,hk,rfl,rfl,hb,hall⟩:=hrel;have HA:=Ib hall;have HB:=Ib hb;have lo:=vE hall;have hi:=Dm hall;clear hall;rcases (show k<L.length∨L.length=k by omega) with hlt|heq
  ·have hlt':(k:Int)<(L.length:Int):=by omega
   obtain ⟨b0,o0,rfl,hb0,q⟩:=P.out (by intro h;rw [h] at hlt;simp at hlt);obtain ⟨s,hs⟩:∃ s,s=L.getD k Ld.zero:=⟨_,rfl⟩
   have hold:∀ j,j<3→wr.cell? ⟨b0,o0+k*3+j,none⟩=s.cells[j]?:=fun j hj=>by
    rw [hb.cell (p:=⟨b0,o0+k*3+j,none⟩) hb0,hs];exact q k j hlt hj
   have a0:=hold 0 (by omega);have a1:=hold 1 (by omega);have a2:=hold 2 (by omega)
   have hat:mO L k↔(jo L k<s.backend∧s.backend≤11∧0≤s.weight∧s.weight≤8∧0≤s.flows∧s.flows≤40):=by rw [hs];exact Iff.rfl
   have hnx:jo L (k+1)=s.backend:=by simp only [jo,Nat.add_sub_cancel,if_neg (by omega:¬ k+1=0)];rw [hs]
   obtain ⟨la,hla⟩:∃ la,la=jo L k:=⟨_,rfl⟩;rw [← hla] at hat lo hi;have HX:=Ib (And.intro hat hnx);have HLA:=Ib hla;rw [← hla];clear hold hs q hat hnx hla hb;obtain ⟨bk,wt,fl⟩:=s;simp only [Ld.cells,Il,Im,Nat.add_zero] at a0 a1 a2;rcases (show ((bk≤la))∨((la<bk)∧(12≤bk))∨((la<bk)∧(bk≤11)∧(wt<0))∨((la<bk)∧(bk≤11)∧(0≤wt)∧(8<wt))∨((la<bk)∧(bk≤11)∧(0≤wt)∧(wt≤8)∧(fl<0))∨((la<bk)∧(bk≤11)∧(0≤wt)∧(wt≤8)∧(0≤fl)∧(40<fl))∨((la<bk)∧(bk≤11)∧(0≤wt)∧(wt≤8)∧(0≤fl)∧(fl≤40)) by (rcases (show (bk≤la)∨(la<bk) by omega) with hx0|hx0;exact Or.inl hx0;(rcases (show (12≤bk)∨(bk≤11) by omega) with hx1|hx1;exact Or.inr (Or.inl ⟨hx0,hx1⟩);(rcases (show (wt<0)∨(0≤wt) by omega) with hx2|hx2;exact Or.inr (Or.inr (Or.inl ⟨hx0,hx1,hx2⟩));(rcases (show (8<wt)∨(wt≤8) by omega) with hx3|hx3;exact Or.inr (Or.inr (Or.inr (Or.inl ⟨hx0,hx1,hx2,hx3⟩)));(rcases (show (fl<0)∨(0≤fl) by omega) with hx4|hx4;exact Or.inr (Or.inr (Or.inr (Or.inr (Or.inl ⟨hx0,hx1,hx2,hx3,hx4⟩))));(rcases (show (40<fl)∨(fl≤40) by omega) with hx5|hx5;exact Or.inr (Or.inr (Or.inr (Or.inr (Or.inr (Or.inl ⟨hx0,hx1,hx2,hx3,hx4,hx5⟩)))));exact Or.inr (Or.inr (Or.inr (Or.inr (Or.inr (Or.inr (⟨hx0,hx1,hx2,hx3,hx4,hx5⟩))))))))))))) with hs0|⟨hs0,hs1⟩|⟨hs0,hs1,hs2⟩|⟨hs0,hs1,hs2,hs3⟩|⟨hs0,hs1,hs2,hs3,hs4⟩|⟨hs0,hs1,hs2,hs3,hs4,hs5⟩|⟨hs0,hs1,hs2,hs3,hs4,hs5⟩
   rotate_right
   ·have HN:Hid (∀ j,j<k+1→mO L j):=fun j hj=>by
     rcases (show j<k∨j=k by omega) with h|rfl
     ·exact HA.out j h
     ·exact HX.out.1.2 ⟨hs0,by omega,hs2,hs3,hs4,hs5⟩
    have hs1':bk<12:=by omega
    go_wp2;go_roundw
    case rel=>exact ⟨k+1,by omega,by go_num,by rw [HX.out.2],HB.out.alloc HB.out.size _,HN.out⟩
    case measure=>simp [intOf];omega
   all_goals
    have hrf:Hid (r=false):=by
     rcases HR.out with ⟨h,_⟩|⟨_,h⟩
     ·have:=HX.out.1.1 (h.2 k hlt);simp only at this;omega
     ·exact h
    (try have hs1':bk<12:=by omega)
    clear HR
    go_wp2
    all_goals first|(go_ret;exact ⟨rB hrf.out.symm,HB.out.alloc HB.out.size _⟩)|exact Zx
  ·have hge:¬ (k:Int)<(L.length:Int):=by omega
   have hrt:Hid (r=true):=by
    rcases HR.out with ⟨_,h⟩|⟨h,_⟩
    ·exact h
    ·exact absurd ⟨h12,fun i hi=>HA.out i (by omega)⟩ h
   clear HR hb heq;go_wp2
   all_goals first|(go_ret;exact ⟨rB hrt.out.symm,HB.out⟩)|exact Zx
theorem vP:(Tryz.prog.info? 3).map (fun i=>(i.zero,i.size,i.bytes))=some (some (.int .i64 0),1,8):=by kernel_rfl
def dF (L:List Ld):Int:=(L.map (·.weight)).sum
def o8 (num den flows total:Int) (x:Ld):Int:=if 0<x.weight then nZ num den flows x.weight total else 0
def bU (L:List Ld) (num den flows:Int):List Int:=L.map (o8 num den flows (dF L))
theorem kE {L:List Ld} {k:Nat} (hk:k<L.length):dF (L.take (k+1))=dF (L.take k)+(L.getD k Ld.zero).weight:=by
 unfold dF;rw [Ir hk,IH,List.sum_append];simp [List.getD,hk]
theorem oO {L:List Ld} (h:eD L):∀ {k:Nat},k≤L.length→0≤dF (L.take k)∧dF (L.take k)≤8*k
 | 0,_=>by simp [dF]
 | k+1,hk=>by
  have:=oO h (k:=k) (by omega);have h2:=h.2 k (by omega);unfold mO at h2;rw [kE (by omega)];omega
theorem rL {L:List Ld} (h:eD L):∀ {m k:Nat},k≤m→m≤L.length→dF (L.take k)≤dF (L.take m)
 | 0,k,hk,_=>by rw [show k=0 by omega];exact Int.le_refl _
 | m+1,k,hk,hm=>by
  rcases (show k=m+1∨k≤m by omega) with rfl|hk
  ·exact Int.le_refl _
  ·have:=rL h hk (by omega:m≤L.length);have h2:=h.2 m (by omega);unfold mO at h2;rw [kE (by omega)];omega
theorem F3 {L:List Ld} (h:eD L) {k:Nat} (hk:k<L.length):(L.getD k Ld.zero).weight≤dF L:=by
 have h1:=rL h (by omega:k+1≤L.length) (Ij _);rw [kE hk,Iv (Ij _)] at h1;have:=(oO h (by omega:k≤L.length)).1;omega
theorem Fa {L:List Ld} (h:eD L):dF L≤96:=by
 have h1:=(oO h (Ij _)).2;rw [Iv (Ij _)] at h1;have:=h.1;omega
def mT (w:World) (Y:List Int) (code:Int) (e:Ending) (w':World):Prop:=∃ v,e=.returned (.tuple #[v,.int .i64 code])∧aM w.heap.size w' 1 v (Y.map fun x=>[Value.int .i64 x])∧Below w.heap.size w w'
def gE (num den flows:Int):Prop:=1≤den∧den≤num∧num≤20∧0≤flows∧flows≤40
def mU (L:List Ld) (num den flows:Int) (Y:List Int) (code:Int):Prop:=(¬ eD L∧Y=[]∧code=6)∨(eD L∧¬ gE num den flows∧Y=[]∧code=2)∨(eD L∧gE num den flows∧Y=bU L num den flows∧code=0)
theorem intrel (l:List Int):∀ c∈l.map (fun x=>[Value.int .i64 x]),c.length=1:=by
 exact Q29
theorem Dz (l:List Int):(l.map fun x=>[Value.int .i64 x]).flatten=l.map (Value.int .i64):=by
 induction l with
 | nil=>rfl
 | cons x l ih=>simp only [List.map_cons,List.flatten_cons];rw [ih];rfl
theorem ya {num den flows:Int} (h:¬ gE num den flows):den<1∨(1≤den∧num<den)∨(1≤den∧den≤num∧20<num)∨(1≤den∧den≤num∧num≤20∧flows<0)∨(1≤den∧den≤num∧num≤20∧0≤flows∧40<flows):=by
 unfold gE at h;omega
theorem rt (v:Value) (L:List Ld) (num den flows:Int) (w:World) (hv:aG w 3 v (L.map Ld.cells)) (h:¬ eD L):Calls Tryz.prog 35 #[v,.int .i64 num,.int .i64 den,.int .i64 flows] w (mT w [] 6):=by
 have H:=Ib h;have R:=Ib hv;obtain ⟨a,c,rfl,_⟩:=aj hv;clear h hv;go_enter Tryz.func35,Tryz.ntmps35;go_wp2_with (go_at_call 62;refine (pU _ L false _ R.out (Or.inr ⟨H.out,rfl⟩)).mono ?_;rintro e w1 ⟨rfl,hb1⟩;obtain ⟨hc1,hf1⟩:=aV hb1;have hz1:=fO hb1;have hy1:=hb1.size;(try simp at hy1));refine IM (v:=.tuple #[.slice none 0 0,.int .i64 6]) ?_ rfl ⟨_,rfl,bD _ _ _,hb1⟩;simp [results,Tryz.results35,go_sem]
theorem jQ (v:Value) (L:List Ld) (num den flows:Int) (w:World) (hv:aG w 3 v (L.map Ld.cells)) (h:eD L) (h2:¬ gE num den flows):Calls Tryz.prog 35 #[v,.int .i64 num,.int .i64 den,.int .i64 flows] w (mT w [] 2):=by
 have H:=Ib h;have R:=Ib hv;obtain ⟨a,c,rfl,_⟩:=aj hv;clear h hv;rcases ya h2 with h3|⟨h3,h4⟩|⟨h3,h4,h5⟩|⟨h3,h4,h5,h6⟩|⟨h3,h4,h5,h6,h7⟩
 all_goals
  clear h2
  go_enter Tryz.func35,Tryz.ntmps35
  go_wp2_with (first|(go_at_call 62;refine (pU _ L true _ R.out (Or.inl ⟨H.out,rfl⟩)).mono ?_;rintro e w1 ⟨rfl,hb1⟩;obtain ⟨hc1,hf1⟩:=aV hb1;have hz1:=fO hb1;have hy1:=hb1.size;(try simp at hy1))|go_in)
  refine IM (v:=.tuple #[.slice none 0 0,.int .i64 2]) ?_ rfl ⟨_,rfl,bD _ _ _,hb1⟩
  simp [results,Tryz.results35,go_sem]
def CpRel (w wr:World) (L:List Ld) (num den flows:Int) (g k:Nat):Prop:=Below w.heap.size w wr∧w.heap.size≤g∧wr.ownsRow w.heap.size 3 1 (.slice (some ⟨g,0,none⟩) L.length L.length) L.length (((bU L num den flows).take k++List.replicate (L.length - k) 0).map (Value.int .i64))
theorem sI {L:List Ld} {num den flows:Int} {k:Nat} {s:Ld} (hk:k<L.length) (hs:s=L.getD k Ld.zero) :
  ((bU L num den flows).take (k+1)++List.replicate (L.length - (k+1)) 0)=((bU L num den flows).take k++List.replicate (L.length - k) 0).set k (o8 num den flows (dF L) s):=by
 have hl:(bU L num den flows).length=L.length:=by simp [bU]
 have e:(bU L num den flows).take k++List.replicate (L.length - k) (0:Int)=(bU L num den flows).take k++(0 :: List.replicate (L.length - (k+1)) 0):=by
  rw [← List.replicate_succ,show L.length - (k+1)+1=L.length - k by omega]
 rw [e,List.set_append_right _ _ (by simp [hl];omega),Iz,hl,show k - min k L.length=0 by omega,List.set_cons_zero,Ir (by omega)]
 simp [bU,hs,List.getD,hk]
theorem Cw {α:Type} {l:List α} {k:Nat} {x:α} (h:l[k]?=some x):l.set k x=l:=by
 apply List.ext_getElem?;intro j;rw [List.getElem?_set];by_cases hj:k=j
 ·subst hj
  have:k<l.length:=by
   rcases Nat.lt_or_ge k l.length with h'|h'
   ·exact h'
   ·rw [IB h'] at h
    cases h
  rw [if_pos rfl,if_pos this,h]
 ·rw [if_neg hj]
theorem sH {L:List Ld} {num den flows:Int} {k:Nat} (hk:k<L.length):((bU L num den flows).take k++List.replicate (L.length - k) 0)[k]?=some 0:=by
 have hl:(bU L num den flows).length=L.length:=by simp [bU]
 rw [IS (by rw [Iz];omega),Iz,hl,show k - min k L.length=0 by omega,List.getElem?_replicate,if_pos (by omega)]
theorem BJ {L:List Ld} {num den flows:Int} {k:Nat} {s:Ld} (hk:k<L.length) (hs:s=L.getD k Ld.zero) (hw:¬ 0<s.weight) :
  ((bU L num den flows).take (k+1)++List.replicate (L.length - (k+1)) 0)=((bU L num den flows).take k++List.replicate (L.length - k) 0):=by
 rw [sI hk hs]
 have:o8 num den flows (dF L) s=0:=by simp [o8,hw]
 rw [this]
 exact Cw (sH hk)
theorem mn (v:Value) (L:List Ld) (num den flows:Int) (w:World) (hv:aG w 3 v (L.map Ld.cells)) (h:eD L) (h2:gE num den flows):Calls Tryz.prog 35 #[v,.int .i64 num,.int .i64 den,.int .i64 flows] w (mT w (bU L num den flows) 0):=by
 obtain ⟨i0,hi,hi0,hi1,hi2⟩:=info_parts vP;have H:=Ib h;have R:=Ib hv;obtain ⟨a,c,rfl,l,m,n,p⟩:=aJ Ld.zero hv;have P:=Ib p;have h12:L.length≤12:=h.1;have hF:=Ib h2;have h96:=Fa h;obtain ⟨d1,d2,d3,d4,d5⟩:=h2;clear h hv p l m n;go_enter Tryz.func35,Tryz.ntmps35;go_wp2_with (first|(go_at_call 62;refine (pU _ L true _ R.out (Or.inl ⟨H.out,rfl⟩)).mono ?_;rintro e w1 ⟨rfl,hb1⟩;obtain ⟨hc1,hf1⟩:=aV hb1;have hz1:=fO hb1;have hy1:=hb1.size;(try simp at hy1))|go_in);go_loopw [10,33] (fun t i wr=>∃ k:Nat,k≤L.length∧i=.int .i64 k∧t=.int .i64 (dF (L.take k))∧Below w.heap.size w wr) (fun _ i _=>L.length - (intOf i).toNat)
 case atStart=>exact ⟨0,Ik _,rfl,rfl,hb1⟩
 case round=>
  obtain ⟨k,hk,rfl,rfl,hb⟩:=hrel;have HB:=Ib hb;clear hc1 hf1 hz1 hb1;have t1:=oO H.out hk;rcases (show k<L.length∨L.length=k by omega) with hlt|heq
  ·have hlt':(k:Int)<(L.length:Int):=by omega
   obtain ⟨b0,o0,rfl,hb0,q⟩:=P.out (by intro h;rw [h] at hlt;simp at hlt);obtain ⟨s,hs⟩:∃ s,s=L.getD k Ld.zero:=⟨_,rfl⟩
   have hold:∀ j,j<3→wr.cell? ⟨b0,o0+k*3+j,none⟩=s.cells[j]?:=fun j hj=>by
    rw [hb.cell (p:=⟨b0,o0+k*3+j,none⟩) hb0,hs];exact q k j hlt hj
   have a0:=hold 0 (by omega);have a1:=hold 1 (by omega);have a2:=hold 2 (by omega);have hat:mO L k:=H.out.2 k hlt;have hw:=Ib (kE hlt);rw [← hs] at hw
   have w1':0≤s.weight∧s.weight≤8:=by unfold mO at hat;rw [← hs] at hat;exact ⟨hat.2.2.1,hat.2.2.2.1⟩
   obtain ⟨w1',w2'⟩:=w1';clear hold hs q hat hb;obtain ⟨bk,wt,fl⟩:=s;simp only [Ld.cells,Il,Im,Nat.add_zero] at a0 a1 a2 w1' w2';go_wp2;go_roundw
   case rel=>exact ⟨k+1,by omega,by go_num,by rw [hw.out],HB.out.alloc HB.out.size _⟩
   case measure=>simp [intOf];omega
  ·have hge:¬ (k:Int)<(L.length:Int):=by omega
   obtain ⟨T,hT⟩:∃ T,T=dF (L.take k):=⟨_,rfl⟩
   have HT:Hid (T=dF L):=by rw [hT,Iv (by omega)];rfl
   rw [← hT] at t1 ⊢;clear hb hT;have heq':=Ib heq;clear heq;go_wp2_with (at_make;go_loud (refine wpList_make_full _ rfl _ _ 72 rfl w.heap.size 3 i0 (.int .i64 0) 1 Tryz.underlying72 hi hi0 hi1 .i64 .i64 L.length L.length L.length rfl rfl rfl rfl ?c1 ?c2 ?c3 ?_))
   case c1=>((try rw [hi2]);omega)
   case c2=>unfold maxLen;omega
   case c3=>exact HB.out.size
   intro w2 hown hgrow
   have hm:(madeCells #[.int .i64 0] L.length).toList=(((bU L num den flows).take 0++List.replicate (L.length - 0) 0).map (Value.int .i64)):=by
    have h:=fq #[.int .i64 0] L.length (by decide);rw [show L.length*(#[Value.int IntKind.i64 0]).size=L.length by simp] at h;rw [h];simp
   rw [hm] at hown;have B0:Below wr.heap.size wr w2:=(Ic _ _).grown hgrow (by simp) (fun k hk=>by cases hk);have HB2:=Ib (HB.out.trans (B0.mono HB.out.size));have HO:=Ib hown;obtain ⟨g,hg⟩:∃ g,g=wr.heap.size:=⟨_,rfl⟩
   have hg1:w.heap.size≤g:=by have:=HB.out.size;omega
   rw [← hg] at HO ⊢;clear hown hgrow B0 hg HB hm;go_wp2_with fail;go_loopw [47] (fun i wr=>∃ k:Nat,k≤L.length∧i=.int .i64 k∧CpRel w wr L num den flows g k) (fun i _=>L.length - (intOf i).toNat)
   case atStart=>exact ⟨0,Ik _,rfl,HB2.out,hg1,HO.out⟩
   case round=>
    obtain ⟨k,hk,rfl,hb,hg2,hown⟩:=hrel;have HB3:=Ib hb;have HO3:=Ib hown;clear HB2 HO hown;have gl:g<wr.heap.size:=(HO3.out.lt _ rfl).2;rcases (show k<L.length∨L.length=k by omega) with hlt|heq
    ·have hlt':(k:Int)<(L.length:Int):=by omega
     obtain ⟨b0,o0,rfl,hb0,q⟩:=P.out (by intro h;rw [h] at hlt;simp at hlt);obtain ⟨s,hs⟩:∃ s,s=L.getD k Ld.zero:=⟨_,rfl⟩
     have hold:∀ j,j<3→wr.cell? ⟨b0,o0+k*3+j,none⟩=s.cells[j]?:=fun j hj=>by
      rw [hb.cell (p:=⟨b0,o0+k*3+j,none⟩) hb0,hs];exact q k j hlt hj
     have a0:=hold 0 (by omega);have a1:=hold 1 (by omega);have a2:=hold 2 (by omega);have hat:mO L k:=H.out.2 k hlt
     have hge:s.weight≤T:=by rw [HT.out,hs];exact F3 H.out hlt
     have hT96:T≤96:=by rw [HT.out];exact h96
     have w1':0≤s.weight∧s.weight≤8:=by unfold mO at hat;rw [← hs] at hat;exact ⟨hat.2.2.1,hat.2.2.2.1⟩
     obtain ⟨w1',w2'⟩:=w1';have hSK:=Ib (fun hw=>BJ (num:=num) (den:=den) (flows:=flows) hlt hs hw);have hset:(((bU L num den flows).take (k+1)++List.replicate (L.length - (k+1)) 0).map (Value.int .i64))=(((bU L num den flows).take k++List.replicate (L.length - k) 0).map (Value.int .i64)).set k (.int .i64 (o8 num den flows (dF L) s)):=by rw [sI hlt hs,List.map_set]
     have e1:wr.cell? ⟨g,k,none⟩=some (.int .i64 0):=by rw [HO3.out.cellAt k (by omega),List.getElem?_map,sH hlt];rfl
     have e2:wr.frozen? ⟨g,k,none⟩=false:=HO3.out.frozenAt k;have HS:=Ib hset;clear hold hs q hat hb hset;obtain ⟨bk,wt,fl⟩:=s;simp only [Ld.cells,Il,Im,Nat.add_zero] at a0 a1 a2 w1' w2' hge;by_cases hw:0<wt
     ·have hmay:EU num den flows wt T:=⟨d1,d2,d3,d4,d5,by omega,hge,hT96⟩;have HM:=Ib hmay
      have HV:Hid (nZ num den flows wt T=o8 num den flows (dF L) ⟨bk,wt,fl⟩):=by rw [HT.out];simp [Hid,o8,hw]
      clear hmay;go_wp2_with (go_at_call 22;refine (CJ _ _ _ _ _ _ HM.out).mono ?_;rintro e w' ⟨rfl,rfl⟩);go_roundw
      case rel=>exact ⟨k+1,by omega,by go_num,(HB3.out.setCell Zs _).alloc (by simp;exact HB3.out.size) _,hg2,by rw [HS.out,← HV.out];exact (HO3.out.stored k _).1.alloc _⟩
      case measure=>simp [intOf];omega
     ·have hd:decide (0<wt)=false:=by simpa using hw
      go_wp2;go_roundw
      case rel=>exact ⟨k+1,by omega,by go_num,HB3.out.alloc HB3.out.size _,hg2,by rw [hSK.out hw];exact HO3.out.alloc _⟩
      case measure=>simp [intOf];omega
    ·have hge:¬ (k:Int)<(L.length:Int):=by omega
     have hEQ:=Ib heq;clear hb heq;go_wp2;refine IM (v:=.tuple #[.slice (some ⟨g,0,none⟩) L.length L.length,.int .i64 0]) ?_ rfl ⟨_,rfl,?_,HB3.out⟩
     ·simp [results,Tryz.results35,go_sem, *]
     ·refine aC (e:=3) (n:=L.length) ?_ (by simp [bU]) (intrel _);have h:=HO3.out
      have e:(bU L num den flows).take k++List.replicate (L.length - k) 0=bU L num den flows:=by
       have:=hEQ.out;rw [Iv (by simp [bU];omega),show L.length - k=0 by omega];simp
      rw [e] at h;rw [Dz];exact h
structure Cf where
 flows:Int
 num:Int
 den:Int
 tries:Int
 warm:Int
 drain:Int
 idle:Int
 connect:Int
 retries:Int
 most:Int
 bn:Int
 bd:Int
 bb:Int
 ww:Int
 wf:Int
 wh:Int
 deriving DecidableEq
def Cf.cells (x:Cf):List Value:=[.int .i64 x.flows,.int .i64 x.num,.int .i64 x.den,.int .i64 x.tries,.int .i64 x.warm,.int .i64 x.drain,.int .i64 x.idle,.int .i64 x.connect,.int .i64 x.retries,.int .i64 x.most,.int .i64 x.bn,.int .i64 x.bd,.int .i64 x.bb,.int .i64 x.ww,.int .i64 x.wf,.int .i64 x.wh]
def Cf.zero:Cf:=⟨0,0,0,0,0,0,0,0,0,0,0,0,0,0,0,0⟩
def CfBase (x:Cf):Prop:=(0≤x.warm∧x.warm≤500∧1≤x.drain∧x.drain≤500∧1≤x.idle∧x.idle≤500∧1≤x.connect∧x.connect≤500)∧(1≤x.den∧x.den≤x.num∧x.num≤20)∧(1≤x.flows∧x.flows≤40∧0≤x.tries∧x.tries≤12∧0≤x.retries∧x.retries≤20∧0≤x.most∧x.most≤100)
def j4 (x:Cf):Prop:=CfBase x∧gW x.bn x.bd x.bb∧gV x.ww x.wf x.wh
theorem lE (n lo hi:Int) (w:World) (h1:lo≤n) (h2:n≤hi):Calls Tryz.prog 66 #[.int .i64 n,.int .i64 lo,.int .i64 hi] w fun e w'=>e=.returned (.bool true)∧w=w':=by
 go_enter Tryz.func66,Tryz.ntmps66;go_wp2
 all_goals first|(go_ret;exact ⟨rfl,rfl⟩)|exact Zx
theorem qU:eD []:=⟨by simp,fun i hi=>by simp at hi⟩
def CnPost (w:World) (code:Int) (e:Ending) (w':World):Prop:=∃ v,e=.returned (.tuple #[v,.int .i64 code])∧Below w.heap.size w w'
def I9 (num den cd:Int):Prop:=(gE num den 0∧cd=0)∨(¬ gE num den 0∧cd=2)
theorem rs (num den code:Int) (w:World) (h:I9 num den code):Calls Tryz.prog 35 #[.slice none 0 0,.int .i64 num,.int .i64 den,.int .i64 0] w (CnPost w code):=by
 rcases h with ⟨h,rfl⟩|⟨h,rfl⟩
 ·exact (mn _ [] num den 0 w (io w 3) qU h).mono fun e w' ⟨v,he,_,hb⟩=>⟨v,he,hb⟩
 ·exact (jQ _ [] num den 0 w (io w 3) qU h).mono fun e w' ⟨v,he,_,hb⟩=>⟨v,he,hb⟩
theorem kg (flows num den tries warm drain idle connect retries most bn bd bb ww wf wh:Int) (w:World) (h:j4 ⟨flows,num,den,tries,warm,drain,idle,connect,retries,most,bn,bd,bb,ww,wf,wh⟩):Calls Tryz.prog 50 #[.agg #[.int .i64 flows,.int .i64 num,.int .i64 den,.int .i64 tries,.int .i64 warm,.int .i64 drain,.int .i64 idle,.int .i64 connect,.int .i64 retries,.int .i64 most,.int .i64 bn,.int .i64 bd,.int .i64 bb,.int .i64 ww,.int .i64 wf,.int .i64 wh]] w fun e w'=>e=.returned (.int .i64 0)∧Below w.heap.size w w':=by
 obtain ⟨⟨⟨hs0,hs1,hs2,hs3,hs4,hs5,hs6,hs7⟩,⟨d1,d2,d3⟩,⟨ht0,ht1,ht2,ht3,ht4,ht5,ht6,ht7⟩⟩,hbud,hwat⟩:=h;obtain ⟨cd,hcd⟩:∃ cd:Int,cd=0:=⟨_,rfl⟩;have HF:Hid (I9 num den cd):=Or.inl ⟨⟨d1,d2,d3,by omega,by omega⟩,hcd⟩;subst hcd;have HB:=Ib hbud;have HW:=Ib hwat;clear hbud hwat;simp only at hs0 hs1 hs2 hs3 hs4 hs5 hs6 hs7 d1 d2 d3 ht0 ht1 ht2 ht3 ht4 ht5 ht6 ht7;go_enter Tryz.func50,Tryz.ntmps50;go_wp2_with (first|(go_at_call 66;first|(refine (lE _ _ _ _ (by omega) (by omega)).mono ?_;rintro e w' ⟨rfl,rfl⟩)|(refine (within_no _ _ _ _ (by omega)).mono ?_;rintro e w' ⟨rfl,rfl⟩))|(go_at_call 35;refine (rs num den 0 _ HF.out).mono ?_;rintro e w1 ⟨v1,rfl,hb1⟩;obtain ⟨hc1,hf1⟩:=aV hb1;have hz1:=fO hb1;have hy1:=hb1.size;(try simp at hy1))|(go_at_call 104;refine (j6 _ _ _ _ HB.out).mono ?_;rintro e w2 ⟨rfl,hb2⟩;obtain ⟨hc2,hf2⟩:=aV hb2;have hz2:=fO hb2;have hy2:=hb2.size;(try simp at hy2))|(go_at_call 105;refine (iE _ _ _ _ HW.out).mono ?_;rintro e w3 ⟨rfl,hb3⟩;obtain ⟨hc3,hf3⟩:=aV hb3;have hz3:=fO hb3;have hy3:=hb3.size;(try simp at hy3)))
 all_goals exact Zf
theorem CR {a n:Nat} (h:a / 8=n / 8):bH a n=a % 8:=by unfold bH;rw [if_pos h]
theorem CQ {a n:Nat} (h:¬ a / 8=n / 8) (h2:a / 64=n / 64):bH a n=8+a / 8 % 8:=by unfold bH;rw [if_neg h,if_pos h2]
theorem CN {a n:Nat} (h:¬ a / 8=n / 8) (h2:¬ a / 64=n / 64) (h3:a / 512=n / 512):bH a n=16+a / 64 % 8:=by unfold bH;rw [if_neg h,if_neg h2,if_pos h3]
theorem CM {a n:Nat} (h:¬ a / 8=n / 8) (h2:¬ a / 64=n / 64) (h3:¬ a / 512=n / 512):bH a n=24:=by unfold bH;rw [if_neg h,if_neg h2,if_neg h3]
theorem lL (a n:Nat) (w:World) (ha:a≤2199023255552) (hn:n≤2199023255552):Calls Tryz.prog 163 #[.int .i64 a,.int .i64 n] w fun e w'=>e=.returned (.int .i64 (bH a n:Nat))∧Below w.heap.size w w':=by
 obtain ⟨p,hp⟩:∃ p,p=bH a n:=⟨_,rfl⟩;rw [← hp];have b1:(a:Int)≤2199023255552:=by omega
 have b2:(n:Int)≤2199023255552:=by omega
 have b3:(0:Int)≤(a:Int):=by omega
 have b4:(0:Int)≤(n:Int):=by omega
 by_cases h1:a / 8=n / 8
 ·have HP:=Ib (show ((a:Int) % 8)=(p:Int) by rw [hp,CR h1];omega)
  have e1:((a:Int) / 8 == (n:Int) / 8)=true:=by rw [beq_iff_eq];omega
  have e2:(a:Int) / 8=(n:Int) / 8:=by omega
  clear hp h1 ha hn;go_enter Tryz.func163,Tryz.ntmps163;go_wp2;refine wp_loop_rounds 4 ?_;rw [rounds_succ];go_wp2;go_quiet (fail);exact Q49
 ·by_cases h2:a / 64=n / 64
  ·have HP:=Ib (show (8+(a:Int) / 8 % 8)=(p:Int) by rw [hp,CQ h1 h2];omega)
   have e1:((a:Int) / 8 == (n:Int) / 8)=false:=by rw [beq_eq_false_iff_ne];omega
   have e2:¬ (a:Int) / 8=(n:Int) / 8:=by omega
   have e3:((a:Int) / 64 == (n:Int) / 64)=true:=by rw [beq_iff_eq];omega
   have e4:(a:Int) / 64=(n:Int) / 64:=by omega
   clear hp h1 h2 ha hn;go_enter Tryz.func163,Tryz.ntmps163;go_wp2;refine wp_loop_rounds 4 ?_;exact Q158
  ·by_cases h3:a / 512=n / 512
   ·have HP:=Ib (show (16+(a:Int) / 64 % 8)=(p:Int) by rw [hp,CN h1 h2 h3];omega)
    have e1:((a:Int) / 8 == (n:Int) / 8)=false:=by rw [beq_eq_false_iff_ne];omega
    have e2:¬ (a:Int) / 8=(n:Int) / 8:=by omega
    have e3:((a:Int) / 64 == (n:Int) / 64)=false:=by rw [beq_eq_false_iff_ne];omega
    have e4:¬ (a:Int) / 64=(n:Int) / 64:=by omega
    have e5:((a:Int) / 512 == (n:Int) / 512)=true:=by rw [beq_iff_eq];omega
    have e6:(a:Int) / 512=(n:Int) / 512:=by omega
    clear hp h1 h2 h3 ha hn;go_enter Tryz.func163,Tryz.ntmps163;go_wp2;refine wp_loop_rounds 4 ?_;rw [rounds_succ];go_wp2;go_quiet (fail);go_wp2;exact Q158
   ·have HP:=Ib (show (24:Int)=(p:Int) by rw [hp,CM h1 h2 h3];rfl)
    have e1:((a:Int) / 8 == (n:Int) / 8)=false:=by rw [beq_eq_false_iff_ne];omega
    have e2:¬ (a:Int) / 8=(n:Int) / 8:=by omega
    have e3:((a:Int) / 64 == (n:Int) / 64)=false:=by rw [beq_eq_false_iff_ne];omega
    have e4:¬ (a:Int) / 64=(n:Int) / 64:=by omega
    have e5:((a:Int) / 512 == (n:Int) / 512)=false:=by rw [beq_eq_false_iff_ne];omega
    have e6:¬ (a:Int) / 512=(n:Int) / 512:=by omega
    clear hp h1 h2 h3 ha hn;go_enter Tryz.func163,Tryz.ntmps163;go_wp2;refine wp_loop_rounds 4 ?_;rw [rounds_succ];go_wp2;go_quiet (fail);go_wp2;rw [rounds_succ];go_wp2;go_quiet (fail);go_wp2;rw [rounds_succ];go_wp2;go_quiet (fail);go_wp2;rw [rounds_succ];exact Q49
theorem jh (t:Tm) (now:Int) (w:World) (h0:0≤now) (h1:now≤1099511627776) (r:Bool) (hr:(dJ t now∧r=true)∨(¬ dJ t now∧r=false)):Calls Tryz.prog 162 #[.agg #[.int .i64 t.at_,.int .i64 t.id],.int .i64 now] w fun e w'=>e=.returned (.bool r)∧Below w.heap.size w w':=by
 obtain ⟨x,y⟩:=t;simp only [dJ] at hr;rcases (show ((¬ now<x))∨((now<x)∧(¬ x≤now+500))∨((now<x)∧(x≤now+500)∧(¬ x≤1099511627776))∨((now<x)∧(x≤now+500)∧(x≤1099511627776)∧(¬ 0≤y))∨((now<x)∧(x≤now+500)∧(x≤1099511627776)∧(0≤y)∧(¬ y<200))∨((now<x)∧(x≤now+500)∧(x≤1099511627776)∧(0≤y)∧(y<200)) by (rcases (show (¬ now<x)∨(now<x) by omega) with hx0|hx0;exact Or.inl hx0;(rcases (show (¬ x≤now+500)∨(x≤now+500) by omega) with hx1|hx1;exact Or.inr (Or.inl ⟨hx0,hx1⟩);(rcases (show (¬ x≤1099511627776)∨(x≤1099511627776) by omega) with hx2|hx2;exact Or.inr (Or.inr (Or.inl ⟨hx0,hx1,hx2⟩));(rcases (show (¬ 0≤y)∨(0≤y) by omega) with hx3|hx3;exact Or.inr (Or.inr (Or.inr (Or.inl ⟨hx0,hx1,hx2,hx3⟩)));(rcases (show (¬ y<200)∨(y<200) by omega) with hx4|hx4;exact Or.inr (Or.inr (Or.inr (Or.inr (Or.inl ⟨hx0,hx1,hx2,hx3,hx4⟩))));exact Or.inr (Or.inr (Or.inr (Or.inr (Or.inr (⟨hx0,hx1,hx2,hx3,hx4⟩))))))))))) with hs0|⟨hs0,hs1⟩|⟨hs0,hs1,hs2⟩|⟨hs0,hs1,hs2,hs3⟩|⟨hs0,hs1,hs2,hs3,hs4⟩|⟨hs0,hs1,hs2,hs3,hs4⟩
 ·have:r=false:=by rcases hr with ⟨h,_⟩|⟨_,h⟩;omega;exact h
  exact Q169
 ·have:r=false:=by rcases hr with ⟨h,_⟩|⟨_,h⟩;omega;exact h
  subst this;clear hr;have d0:decide (x≤now+500)=false:=by simpa using hs1
  go_enter Tryz.func162,Tryz.ntmps162;go_wp2
  all_goals exact Zf
 ·have:r=false:=by rcases hr with ⟨h,_⟩|⟨_,h⟩;omega;exact h
  subst this;clear hr;have d0:decide (x≤1099511627776)=false:=by simpa using hs2
  go_enter Tryz.func162,Tryz.ntmps162;go_wp2
  all_goals exact Zf
 ·have:r=false:=by rcases hr with ⟨h,_⟩|⟨_,h⟩;omega;exact h
  subst this;clear hr;have d0:decide (0≤y)=false:=by simpa using hs3
  go_enter Tryz.func162,Tryz.ntmps162;go_wp2
  all_goals exact Zf
 ·have:r=false:=by rcases hr with ⟨h,_⟩|⟨_,h⟩;omega;exact h
  subst this;clear hr;have d0:decide (y<200)=false:=by simpa using hs4
  go_enter Tryz.func162,Tryz.ntmps162;go_wp2
  all_goals exact Zf
 ·have:r=true:=by rcases hr with ⟨_,h⟩|⟨h,_⟩;exact h;omega
  exact Q169
def ko (b:Int) (x:Ld):Bool:=x.backend == b && decide (0<x.weight)
def j8 (L:List Ld) (C:List Int) (i:Nat):Bool:=decide ((L.getD i Ld.zero).flows<C.getD i 0)
def dI (L:List Ld) (C:List Int):List Int→Int→Int
 | [],_=>-1
 | b :: bs,t=>if aN (ko b) L<0 then dI L C bs t else if t=0 then -1 else if j8 L C (aN (ko b) L).toNat=true then aN (ko b) L else dI L C bs (t - 1)
def oF (L:List Ld) (C:List Int) (i:Nat):Prop:=0<(L.getD i Ld.zero).weight∧j8 L C i=true
def rZ (L:List Ld) (i:Nat):Int:=(L.getD i Ld.zero).flows
def r8 (L:List Ld) (i:Nat):Int:=(L.getD i Ld.zero).weight
def eE (L:List Ld) (C:List Int) (a n:Nat) (b:Int):Prop:=(b=-1∧∀ i,a≤i→i<n→¬ oF L C i)∨∃ m:Nat,b=m∧a≤m∧m<n∧oF L C m∧(∀ i,a≤i→i<n→oF L C i→rZ L m*r8 L i≤rZ L i*r8 L m)∧(∀ i,a≤i→i<m→oF L C i→rZ L m*r8 L i<rZ L i*r8 L m)
theorem wO {fk wk fb wb fi wi:Int} (hk:0<wk) (hb:0<wb) (hi:0<wi) (h1:fk*wb<fb*wk) (h2:fb*wi≤fi*wb):fk*wi<fi*wk:=by
 have a1:fk*wb*wi<fb*wk*wi:=Int.mul_lt_mul_of_pos_right h1 hi;have a2:fb*wi*wk≤fi*wb*wk:=Int.mul_le_mul_of_nonneg_right h2 (Int.le_of_lt hk)
 have a3:fk*wi*wb<fi*wk*wb:=by
  have e1:fk*wi*wb=fk*wb*wi:=by rw [Int.mul_right_comm]
  have e2:fb*wk*wi=fb*wi*wk:=by rw [Int.mul_right_comm]
  have e3:fi*wk*wb=fi*wb*wk:=by rw [Int.mul_right_comm]
  omega
 exact Int.lt_of_mul_lt_mul_right a3 (Int.le_of_lt hb)
section
variable {L:List Ld} {C:List Int}
theorem qN (n:Nat):eE L C n n (-1):=Or.inl ⟨rfl,fun i h1 h2=>by omega⟩
theorem lY {k:Nat} {b:Int} (h:eE L C 0 k b) (hk:¬ oF L C k):eE L C 0 (k+1) b:=by
 rcases h with ⟨rfl,h⟩|⟨m,rfl,h1,h2,h3,h4,h5⟩
 ·exact Or.inl ⟨rfl,fun i a c=>by rcases (show i<k∨i=k by omega) with h'|rfl;exact h i a h';exact hk⟩
 ·exact Or.inr ⟨m,rfl,h1,by omega,h3,fun i a c d=>by rcases (show i<k∨i=k by omega) with h'|rfl;exact h4 i a h' d;exact absurd d hk,h5⟩
theorem kB {k:Nat} {b:Int} (h:eE L C 0 k b) (hk:oF L C k) (hn:b<0∨rZ L k*r8 L b.toNat<rZ L b.toNat*r8 L k):eE L C 0 (k+1) k:=by
 rcases h with ⟨rfl,h⟩|⟨m,rfl,h1,h2,h3,h4,h5⟩
 ·refine Or.inr ⟨k,rfl,by omega,by omega,hk,fun i a c d=>?_,fun i a c d=>absurd d (h i a c)⟩;rcases (show i<k∨i=k by omega) with h'|rfl
  ·exact absurd d (h i a h')
  ·exact Int.le_refl _
 ·have hlt:rZ L k*r8 L m<rZ L m*r8 L k:=by
   rcases hn with hn|hn
   ·omega
   ·simpa using hn
  refine Or.inr ⟨k,rfl,by omega,by omega,hk,fun i a c d=>?_,fun i a c d=>wO hk.1 h3.1 d.1 hlt (h4 i a c d)⟩;rcases (show i<k∨i=k by omega) with h'|rfl
  ·exact Int.le_of_lt (wO hk.1 h3.1 d.1 hlt (h4 i a h' d))
  ·exact Int.le_refl _
theorem mN {k:Nat} {b:Int} (h:eE L C 0 k b) (hn:0≤b) (hn2:¬ rZ L k*r8 L b.toNat<rZ L b.toNat*r8 L k):eE L C 0 (k+1) b:=by
 rcases h with ⟨rfl,h⟩|⟨m,rfl,h1,h2,h3,h4,h5⟩
 ·omega
 ·refine Or.inr ⟨m,rfl,h1,by omega,h3,fun i a c d=>?_,h5⟩;rcases (show i<k∨i=k by omega) with h'|rfl
  ·exact h4 i a h' d
  ·simp at hn2;exact hn2
theorem Ep {n:Nat} {b b':Int} (h:eE L C 0 n b) (h':eE L C 0 n b'):b=b':=by
 rcases h with ⟨rfl,h⟩|⟨m,rfl,_,h2,h3,h4,h5⟩<;>rcases h' with ⟨rfl,k⟩|⟨m',rfl,_,k2,k3,k4,k5⟩
 ·rfl
 ·exact absurd k3 (h m' (by omega) k2)
 ·exact absurd h3 (k m (by omega) h2)
 ·rcases (show m<m'∨m=m'∨m'<m by omega) with c|c|c
  ·have a1:=k5 m (by omega) c h3;have a2:=h4 m' (by omega) k2 k3;omega
  ·rw [c]
  ·have a1:=h5 m' (by omega) c k3;have a2:=k4 m (by omega) h2 h3;omega
theorem zP {n:Nat} {b:Int} (h:eE L C 0 n b):b=-1∨∃ m:Nat,b=m∧m<n:=by
 rcases h with ⟨rfl,h⟩|⟨m,rfl,_,h2,_⟩
 ·exact Or.inl rfl
 ·exact Or.inr ⟨m,rfl,h2⟩
theorem qQ:∀ (bs:List Int) (t:Int),dI L C bs t=-1∨∃ m:Nat,dI L C bs t=m∧m<L.length
 | [],_=>Or.inl rfl
 | b :: bs,t=>by
  unfold dI
  split
  ·exact qQ bs t
  ·split
   ·exact Or.inl rfl
   ·split
    ·rcases b8 (ko b) L Ld.zero with ⟨hi,_⟩|⟨i,hi,he,_⟩
     ·omega
     ·exact Or.inr ⟨i,he,hi⟩
    ·exact qQ bs (t - 1)
theorem yJ {Wk:List Int} {k:Nat} (hk:k<Wk.length) (t:Int):dI L C (Wk.drop k) t=if aN (ko (Wk.getD k 0)) L<0 then dI L C (Wk.drop (k+1)) t else if t=0 then -1 else if j8 L C (aN (ko (Wk.getD k 0)) L).toNat=true then aN (ko (Wk.getD k 0)) L else dI L C (Wk.drop (k+1)) (t - 1):=by
 have e:Wk.drop k=Wk.getD k 0 :: Wk.drop (k+1):=by rw [List.drop_eq_getElem_cons hk];simp [List.getD,hk]
 rw [e]
 rfl
end
def zV (Wk:List Int) (L:List Ld) (num den flows tries:Int) (b code:Int):Prop:=
 (∃ Y,mU L num den flows Y code∧code≠0∧b=0)∨
 (eD L∧gE num den flows∧(tries<0∨(0≤tries∧12<tries)∨(0≤tries∧tries≤12∧12<Wk.length))∧b=0∧code=2)∨
 (eD L∧gE num den flows∧0≤tries∧tries≤12∧Wk.length≤12∧(∀ x∈L,¬ 0<x.weight)∧b=0∧code=11)∨
 (eD L∧gE num den flows∧0≤tries∧tries≤12∧Wk.length≤12∧(∃ x∈L,0<x.weight)∧
  ((∃ m:Nat,m<L.length∧dI L (bU L num den flows) Wk tries=m∧b=(L.getD m Ld.zero).backend∧code=0)∨
   (dI L (bU L num den flows) Wk tries=-1∧∃ m:Nat,m<L.length∧eE L (bU L num den flows) 0 L.length m∧b=(L.getD m Ld.zero).backend∧code=0)∨
   (dI L (bU L num den flows) Wk tries=-1∧eE L (bU L num den flows) 0 L.length (-1)∧b=0∧code=9)))
def nA (C:List Int):List (List Value):=C.map fun x=>[Value.int .i64 x]
theorem vS {w:World} {v:Value} {C:List Int} (h:aG w 1 v (nA C)):∃ (a:Option Addr) (cap:Nat),v=.slice a C.length cap∧(C≠[]→∃ b off,a=some ⟨b,off,none⟩∧b<w.heap.size∧∀ i,i<C.length→w.cell? ⟨b,off+i,none⟩=some (.int .i64 (C.getD i 0))):=by
 obtain ⟨a,cap,rfl,_,_,_,h6⟩:=aJ 0 h;refine ⟨a,cap,rfl,fun hne=>?_⟩;obtain ⟨b,off,rfl,h7,h8⟩:=h6 hne;exact ⟨b,off,rfl,h7,fun i hi=>by have:=h8 i 0 hi (by omega);simpa using this⟩
theorem of1 (x:Ld) (b:Nat) (backend:Int) (w:World) (h:w.cell? ⟨b,0,none⟩=some (.int .i64 backend)):Calls Tryz.prog 112 #[Ld.agg x,.pointer (some ⟨b,0,none⟩)] w fun e w'=>e=.returned (.bool (ko backend x))∧Below w.heap.size w w':=by
 obtain ⟨bk,wt,fl⟩:=x;have lb:=bS h;unfold Ld.agg;by_cases h1:bk=backend
 ·subst h1;by_cases h2:0<wt
  ·have HV:Hid (true=ko bk ⟨bk,wt,fl⟩):=by simp [Hid,ko,h2]
   exact Q97
  ·have HV:Hid (false=ko bk ⟨bk,wt,fl⟩):=by simp [Hid,ko,h2]
   have hd:decide (0<wt)=false:=by simpa using h2
   exact Q97
 ·have HV:Hid (false=ko backend ⟨bk,wt,fl⟩):=by simp [Hid,ko,h1]
  have hd:(bk == backend)=false:=by simpa using h1
  clear h1;exact Q97
theorem oW (v cv:Value) (L:List Ld) (b:Int) (w:World) (hv:aG w 3 v (L.map Ld.cells)) (hn:L.length≤12) (hcv:∃ a n c,cv=.slice a n c) :
  Calls Tryz.prog 64 #[.agg #[v,cv],.int .i64 b] w fun e w'=>e=.returned (.int .i64 (aN (ko b) L))∧Below w.heap.size w w':=by
 have R:=Ib hv
 obtain ⟨a,c,rfl,_⟩:=aj hv
 obtain ⟨a',n',c',rfl⟩:=hcv
 clear hv
 go_enter Tryz.func64,Tryz.ntmps64
 go_wp2_with fail
 refine (Be 112 ⟨w.heap.size+1,0,none⟩ (fun _ _=>rfl) (ko b) _ L _ (ah (ah R.out _) _) (by omega) (fun x _ w' hb'=>of1 x _ b w' (az hb' (by go_simp)))).mono ?_
 rintro e w1 ⟨rfl,hb1⟩
 have B1:=Ib (((((Ic w.heap.size w).alloc (Ij _) _).alloc (by simp) _)).trans (hb1.mono (by simp;omega)))
 clear hb1
 go_wp2
 all_goals first|(go_ret;exact ⟨rfl,B1.out⟩)|exact Zx
theorem jg (v cv:Value) (L:List Ld) (C:List Int) (i:Nat) (w:World) (hv:aG w 3 v (L.map Ld.cells)) (hc:aG w 1 cv (nA C)) (hi:i<L.length) (hl:C.length=L.length) :
  Calls Tryz.prog 65 #[.agg #[v,cv],.int .i64 i] w fun e w'=>e=.returned (.bool (j8 L C i))∧Below w.heap.size w w':=by
 obtain ⟨a,c,rfl,_,_,_,p⟩:=aJ Ld.zero hv
 obtain ⟨b0,o0,rfl,hb0,q⟩:=p (by intro h;rw [h] at hi;simp at hi)
 obtain ⟨a',c',rfl,p'⟩:=vS hc
 obtain ⟨b1,o1,rfl,hb1,q'⟩:=p' (by intro h;rw [h] at hl;simp at hl;omega)
 have a2:=q i 2 hi (by omega)
 have d0:=q' i (by omega)
 have HV:Hid (decide ((L.getD i Ld.zero).flows<C.getD i 0)=j8 L C i):=rfl
 have hi':(i:Int)<(L.length:Int):=by omega
 have hi2:(i:Int)<(C.length:Int):=by omega
 have p0:(0:Int)≤(i:Int):=by omega
 generalize (L.getD i Ld.zero)=s at a2 HV
 generalize C.getD i 0=cc at d0 HV
 obtain ⟨bk,wt,fl⟩:=s
 simp only [Ld.cells,Il,Im] at a2 HV
 clear q q' p p' hv hc
 go_enter Tryz.func65,Tryz.ntmps65
 go_wp2_with fail
 go_quiet (fail)
 go_wp2
 all_goals first|(go_ret;exact ⟨rB HV.out,Zb⟩)|exact Zx
theorem lQ (v cv wv:Value) (L:List Ld) (C Wk:List Int) (tries:Int) (w:World) (hv:aG w 3 v (L.map Ld.cells)) (hc:aG w 1 cv (nA C)) (hw:aG w 1 wv (nA Wk)) (hn:L.length≤12) (hl:C.length=L.length) (hk:Wk.length≤12) (t0:0≤tries) (t1:tries≤12) :
  Calls Tryz.prog 38 #[.agg #[v,cv],wv,.int .i64 tries] w fun e w'=>e=.returned (.int .i64 (dI L C Wk tries))∧Below w.heap.size w w':=by
 have RV:=Ib hv
 have RC:=Ib hc
 obtain ⟨a,c,rfl,_⟩:=aj hv
 obtain ⟨a',c',rfl,_⟩:=vS hc
 obtain ⟨a2,c2,rfl,pw⟩:=vS hw
 have PW:=Ib pw
 have HLen:=Ib hl
 clear hv hc hw pw hl
 go_enter Tryz.func38,Tryz.ntmps38
 go_wp2
 go_step3
 go_wp2
 go_step3
 go_wp2
 go_loopw [2,7,13] (fun t f i wr=>∃ (k:Nat) (tv:Int),k≤Wk.length∧i=.int .i64 k∧t=.int .i64 tv∧f=.int .i64 (-1)∧0≤tv∧tv≤12∧dI L C Wk tries=dI L C (Wk.drop k) tv∧Below w.heap.size w wr∧w.heap.size<wr.heap.size∧wr.cell? ⟨w.heap.size,0,none⟩=some (.slice a L.length c)∧wr.cell? ⟨w.heap.size,1,none⟩=some (.slice a' C.length c')) (fun _ _ i _=>Wk.length - (intOf i).toNat)
 case atStart=>exact ⟨0,tries,Ik _,rfl,rfl,rfl,t0,t1,rfl,(Ic _ _).alloc (Ij _) _,by simp,by go_simp,by go_simp⟩
 case round=>
  obtain ⟨k,tv,hk',rfl,rfl,rfl,t2,t3,hal,hb,hsz,c0,c1⟩:=hrel;have HA:=Ib hal;have HB:=Ib hb;clear hal;rcases (show k<Wk.length∨Wk.length=k by omega) with hlt|heq
  ·have hlt':(k:Int)<(Wk.length:Int):=by omega
   obtain ⟨b0,o0,rfl,hb0,q⟩:=PW.out (by intro h;rw [h] at hlt;simp at hlt);obtain ⟨b,hbk⟩:∃ b,b=Wk.getD k 0:=⟨_,rfl⟩
   have a0:wr.cell? ⟨b0,o0+k,none⟩=some (.int .i64 b):=by rw [hb.cell (p:=⟨b0,o0+k,none⟩) hb0,hbk];exact q k hlt
   have HD:=Ib (yJ (L:=L) (C:=C) hlt tv);rw [← hbk] at HD;have R1:=Ib (aq RV.out hb);have R2:=Ib (aq RC.out hb);clear hb hbk q;rcases b8 (ko b) L Ld.zero with ⟨hi,_⟩|⟨i,hi,he,_⟩
   ·have HI:=Ib hi
    have HN:Hid (dI L C Wk tries=dI L C (Wk.drop (k+1)) tv):=by show _=_;rw [HA.out,HD.out,if_pos (by omega)]
    clear hi;go_wp2_with fail;refine (oW _ _ L b _ R1.out hn ⟨_,_,_,rfl⟩).mono ?_;rintro e w1 ⟨rfl,hb1⟩;rw [HI.out];have B1:=Ib (HB.out.trans (hb1.mono (Nat.le_of_lt hsz)));have e0:=Ib (az hb1 c0);have e1:=Ib (az hb1 c1);have s1:=hb1.size;clear hb1;go_wp2;go_roundw
    case rel=>exact ⟨k+1,tv,by omega,by go_num,rfl,rfl,t2,t3,HN.out,B1.out,by omega,e0.out,e1.out⟩
    case measure=>simp [intOf];omega
   ·have HI:=Ib he;have i0:¬ (i:Int)<0:=by omega
    rw [he] at HD;simp only [Iu,if_neg i0] at HD;clear he;rcases (show tv=0∨0<tv by omega) with rfl|htv
    ·have HN:Hid (dI L C Wk tries=-1):=by show _=_;rw [HA.out];have:=HD.out;rw [if_pos rfl] at this;exact this
     go_wp2_with fail;refine (oW _ _ L b _ R1.out hn ⟨_,_,_,rfl⟩).mono ?_;rintro e w1 ⟨rfl,hb1⟩;rw [HI.out];have B1:=Ib (HB.out.trans (hb1.mono (Nat.le_of_lt hsz)));clear hb1;go_wp2
     all_goals first|(go_ret;exact ⟨rI HN.out.symm,B1.out⟩)|(simp only [Exit.noGoto];go_ret;exact ⟨rI HN.out.symm,B1.out⟩)
    ·have htz:(tv == 0)=false:=by simp;omega
     have ht2:¬ tv=0:=by omega
     by_cases hr:j8 L C i=true
     ·have HN:Hid (dI L C Wk tries=i):=by show _=_;rw [HA.out];have:=HD.out;rw [if_neg ht2] at this;simpa [hr] using this
      have HRm:=Ib hr;clear hr;go_wp2_with fail;refine (oW _ _ L b _ R1.out hn ⟨_,_,_,rfl⟩).mono ?_;rintro e w1 ⟨rfl,hb1⟩;rw [HI.out];have B1:=Ib (HB.out.trans (hb1.mono (Nat.le_of_lt hsz)));have e0:=az hb1 c0;have e1:=az hb1 c1;have Q1:=Ib (aq R1.out hb1);have Q2:=Ib (aq R2.out hb1);clear hb1;go_wp2_with fail;refine (jg _ _ L C i _ Q1.out Q2.out hi HLen.out).mono ?_;rintro e w2 ⟨rfl,hb2⟩;rw [HRm.out];have B2:=Ib (B1.out.trans (hb2.mono B1.out.size));clear hb2;go_wp2
      all_goals first|(go_ret;exact ⟨rI HN.out.symm,B2.out⟩)|(simp only [Exit.noGoto];go_ret;exact ⟨rI HN.out.symm,B2.out⟩)
     ·have hr':j8 L C i=false:=by simpa using hr
      have HN:Hid (dI L C Wk tries=dI L C (Wk.drop (k+1)) (tv - 1)):=by show _=_;rw [HA.out];have:=HD.out;rw [if_neg ht2] at this;simpa [hr] using this
      have HRm:=Ib hr';clear hr hr';go_wp2_with fail;refine (oW _ _ L b _ R1.out hn ⟨_,_,_,rfl⟩).mono ?_;rintro e w1 ⟨rfl,hb1⟩;rw [HI.out];have B1:=Ib (HB.out.trans (hb1.mono (Nat.le_of_lt hsz)));have e0:=az hb1 c0;have e1:=az hb1 c1;have Q1:=Ib (aq R1.out hb1);have Q2:=Ib (aq R2.out hb1);have s1:=hb1.size;clear hb1;go_wp2_with fail;refine (jg _ _ L C i _ Q1.out Q2.out hi HLen.out).mono ?_;rintro e w2 ⟨rfl,hb2⟩;rw [HRm.out];have B2:=Ib (B1.out.trans (hb2.mono B1.out.size));have g0:=Ib (az hb2 e0);have g1:=Ib (az hb2 e1);have s2:=hb2.size;clear hb2;go_wp2;go_roundw
      case rel=>exact ⟨k+1,tv - 1,by omega,by go_num,by go_num,rfl,by omega,by omega,HN.out,B2.out,by omega,g0.out,g1.out⟩
      case measure=>simp [intOf];omega
  ·have hge:¬ (k:Int)<(Wk.length:Int):=by omega
   have HN:Hid (dI L C Wk tries=-1):=by show _=_;rw [HA.out,List.drop_eq_nil_of_le (by omega)];rfl
   clear hb heq;go_wp2
   all_goals first|(go_ret;exact ⟨rI HN.out.symm,HB.out⟩)|exact Zx
theorem Dl {L:List Ld} (h:eD L) {i:Nat} (hi:i<L.length):0≤(L.getD i Ld.zero).weight∧(L.getD i Ld.zero).weight≤8∧0≤(L.getD i Ld.zero).flows∧(L.getD i Ld.zero).flows≤40:=by
 have:=h.2 i hi;unfold mO at this;exact ⟨this.2.2.1,this.2.2.2.1,this.2.2.2.2.1,this.2.2.2.2.2⟩
theorem vy {a b:Int} (h1:0≤a) (h2:a≤40) (h3:0≤b) (h4:b≤8):IntKind.i64.wrap (a*b)=a*b:=by
 have:=iX h1 h2 h3 h4;exact IL _ (by omega)
def LsRel (w wr:World) (v cv:Value) (L:List Ld) (C:List Int) (k:Nat) (b:Int):Prop:=k≤L.length∧eE L C 0 k b∧Below w.heap.size w wr∧w.heap.size<wr.heap.size∧wr.cell? ⟨w.heap.size,0,none⟩=some v∧wr.cell? ⟨w.heap.size,1,none⟩=some cv
theorem pV (v cv:Value) (L:List Ld) (C:List Int) (b:Int) (w:World) (hv:aG w 3 v (L.map Ld.cells)) (hc:aG w 1 cv (nA C)) (hm:eD L) (hl:C.length=L.length) (hB:eE L C 0 L.length b) :
  Calls Tryz.prog 39 #[.agg #[v,cv]] w fun e w'=>e=.returned (.int .i64 b)∧Below w.heap.size w w':=by
 have RV:=Ib hv
 have RC:=Ib hc
 have HBst:=Ib hB
 have HM:=Ib hm
 have h12:=hm.1
 obtain ⟨a,c,rfl,_,_,_,p⟩:=aJ Ld.zero hv
 have P:=Ib p
 obtain ⟨a',c',rfl,_⟩:=vS hc
 have HLen:=Ib hl
 clear hv hc hB hm p hl
 go_enter Tryz.func39,Tryz.ntmps39
 go_wp2
 go_loopw [3,9] (fun t i wr=>∃ (k:Nat) (bv:Int),i=.int .i64 k∧t=.int .i64 bv∧LsRel w wr (.slice a L.length c) (.slice a' C.length c') L C k bv) (fun _ i _=>L.length - (intOf i).toNat)
 case atStart=>exact ⟨0,-1,rfl,rfl,Ik _,qN 0,(Ic _ _).alloc (Ij _) _,by simp,by go_simp,by go_simp⟩
 case round=>
  obtain ⟨k,bv,rfl,rfl,hk,hbst,hb,hsz,c0,c1⟩:=hrel;have HS:=Ib hbst;have HB:=Ib hb;rcases (show k<L.length∨L.length=k by omega) with hlt|heq
  ·have hlt':(k:Int)<(L.length:Int):=by omega
   have p0:(0:Int)≤(k:Int):=by omega
   obtain ⟨b0,o0,rfl,hb0,q⟩:=P.out (by intro h;rw [h] at hlt;simp at hlt)
   have hq:∀ i j,i<L.length→j<3→wr.cell? ⟨b0,o0+i*3+j,none⟩=(L.getD i Ld.zero).cells[j]?:=fun i j hi hj=>by
    rw [hb.cell (p:=⟨b0,o0+i*3+j,none⟩) hb0];exact q i j hi hj
   have HQ:=Ib hq;obtain ⟨s,hs⟩:∃ s,s=L.getD k Ld.zero:=⟨_,rfl⟩;have HSs:=Ib hs;have a0:=hq k 0 hlt (by omega);have a1:=hq k 1 hlt (by omega);have a2:=hq k 2 hlt (by omega);have bd:=Dl HM.out hlt;rw [← hs] at a0 a1 a2 bd;have lt:=zP hbst;have Q1:=Ib (aq RV.out hb);have Q2:=Ib (aq RC.out hb);clear hs hq q hb hbst;obtain ⟨bk,wt,fl⟩:=s;simp only [Ld.cells,Il,Im,Nat.add_zero] at a0 a1 a2 bd;obtain ⟨bd0,bd1,bd2,bd3⟩:=bd;have lb:b0<wr.heap.size:=bS a0
   have hW:Hid (r8 L k=wt):=by show _=_;unfold r8;rw [← HSs.out]
   have hF:Hid (rZ L k=fl):=by show _=_;unfold rZ;rw [← HSs.out]
   rcases (show wt=0∨0<wt by omega) with rfl|hwt
   ·have HN:Hid (eE L C 0 (k+1) bv):=lY HS.out (fun h=>by have h1:=h.1;have h2:=hW.out;unfold r8 at h2;omega);go_wp2;go_roundw
    case rel=>exact ⟨k+1,bv,by go_num,rfl,by omega,HN.out,HB.out.alloc (by omega) _,by simp;omega,aD _ c0,aD _ c1⟩
    case measure=>simp [intOf];omega
   ·have hwz:(wt == 0)=false:=by simp;omega
    by_cases hr:j8 L C k=true;rotate_left
    ·have hr':j8 L C k=false:=by simpa using hr
     have HRm:=Ib hr';have HN:Hid (eE L C 0 (k+1) bv):=lY HS.out (fun h=>hr h.2);clear hr hr';go_wp2_with (first|(go_at_call 65;refine (jg _ _ L C k _ (ah Q1.out _) (ah Q2.out _) hlt HLen.out).mono ?_;rintro e w1 ⟨rfl,hb1⟩;rw [HRm.out]));have hbx:Hid (Below wr.heap.size wr w1):=((Ic _ _).alloc (Ij _) _).trans (hb1.mono (by simp));have s1:=hb1.size;simp at s1;clear hb1;go_wp2;go_roundw
     case rel=>exact ⟨k+1,bv,by go_num,rfl,by omega,HN.out,HB.out.trans (hbx.out.mono (by omega)),by omega,az hbx.out c0,az hbx.out c1⟩
     case measure=>simp [intOf];omega
    ·have HOk:Hid (oF L C k):=⟨by have h2:=hW.out;unfold r8 at h2;omega,hr⟩;have HRm:=Ib hr;clear hr;rcases lt with rfl|⟨m,rfl,hmk⟩
     ·have HN:Hid (eE L C 0 (k+1) k):=kB HS.out HOk.out (Or.inl (by omega));go_wp2_with (first|(go_at_call 65;refine (jg _ _ L C k _ (ah Q1.out _) (ah Q2.out _) hlt HLen.out).mono ?_;rintro e w1 ⟨rfl,hb1⟩;rw [HRm.out]));have hbx:Hid (Below wr.heap.size wr w1):=((Ic _ _).alloc (Ij _) _).trans (hb1.mono (by simp));have hE:=ai hb1 (au (w:=wr) (.cells #[.int .i64 bk,.int .i64 wt,.int .i64 fl] 80) rfl) (by simp);have x1:=aa hE 1;have x2:=aa hE 2;simp at x1 x2;have s1:=hb1.size;simp at s1;have y0:=az hbx.out c0;have y1:=az hbx.out c1;clear hb1 hE;exact Q79
     ·have hmL:m<L.length:=by omega
      have hm':(m:Int)<(L.length:Int):=by omega
      have p1:(0:Int)≤(m:Int):=by omega
      obtain ⟨s,hs⟩:∃ s,s=L.getD m Ld.zero:=⟨_,rfl⟩;have d1:=HQ.out m 1 hmL (by omega);have d2:=HQ.out m 2 hmL (by omega);have be:=Dl HM.out hmL;rw [← hs] at d1 d2 be
      have hWm:Hid (r8 L m=s.weight):=by show _=_;unfold r8;rw [← hs]
      have hFm:Hid (rZ L m=s.flows):=by show _=_;unfold rZ;rw [← hs]
      clear hs;obtain ⟨bm,wm,fm⟩:=s;simp only [Ld.cells,Il,Im] at d1 d2 be;obtain ⟨be0,be1,be2,be3⟩:=be;have z1:=vy bd2 bd3 be0 be1;have z2:=vy be2 be3 bd0 bd1;obtain ⟨P1,hP1⟩:∃ P1,P1=fl*wm:=⟨_,rfl⟩;obtain ⟨P2,hP2⟩:∃ P2,P2=fm*wt:=⟨_,rfl⟩
      have HP:Hid (rZ L k*r8 L m=P1∧rZ L m*r8 L k=P2):=by
       rw [Hid,hF.out,hW.out,hFm.out,hWm.out,hP1,hP2];exact ⟨rfl,rfl⟩
      go_wp2_with (first|(go_at_call 65;refine (jg _ _ L C k _ (ah Q1.out _) (ah Q2.out _) hlt HLen.out).mono ?_;rintro e w1 ⟨rfl,hb1⟩;rw [HRm.out]));have hbx:Hid (Below wr.heap.size wr w1):=((Ic _ _).alloc (Ij _) _).trans (hb1.mono (by simp));have hE:=ai hb1 (au (w:=wr) (.cells #[.int .i64 bk,.int .i64 wt,.int .i64 fl] 80) rfl) (by simp);have x1:=aa hE 1;have x2:=aa hE 2;simp at x1 x2;have s1:=hb1.size;simp at s1;have y0:=az hbx.out c0;have y1:=az hbx.out c1;have u1:=az hbx.out d1;have u2:=az hbx.out d2;clear hb1 hE;have hm0:¬ (m:Int)<0:=by omega
      have hd0:decide ((m:Int)<0)=false:=by simp
      by_cases hc:P1<P2
      ·have hc':fl*wm<fm*wt:=by rw [← hP1,← hP2];exact hc
       have HN:Hid (eE L C 0 (k+1) k):=kB HS.out HOk.out (Or.inr (by have h:=HP.out;simp only [Iu];rw [h.1,h.2];exact hc));clear hc hP1 hP2;exact Q79
      ·have hc':fm*wt≤fl*wm:=by rw [← hP1,← hP2];omega
       have hcd:decide (fl*wm<fm*wt)=false:=by simpa using hc'
       have HN:Hid (eE L C 0 (k+1) m):=mN HS.out (by omega) (by have h:=HP.out;simp only [Iu];rw [h.1,h.2];exact hc);clear hc hP1 hP2;go_wp2_with fail;go_quiet (fail);go_wp2;go_roundw
       case rel=>exact ⟨k+1,m,by go_num,rfl,by omega,HN.out,aI (HB.out.trans (hbx.out.mono (by omega))),by simp;omega,by simpa using y0,by simpa using y1⟩
       case measure=>simp [intOf];omega
  ·have hge:¬ (k:Int)<(L.length:Int):=by omega
   have HE:Hid (bv=b):=by rw [← heq] at hbst;exact Ep hbst HBst.out
   clear hb hbst heq;go_wp2
   all_goals first|(go_ret;exact ⟨rI HE.out,HB.out⟩)|exact Zx
end
end Go.Proofs.YtocbhafgjepnjaaGreat
