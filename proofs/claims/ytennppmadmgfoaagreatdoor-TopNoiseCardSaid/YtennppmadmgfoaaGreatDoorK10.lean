/- Texts of the row's proof. Conditions: none. -/
import Derived.BigQuiet
import Derived.Test.YtennppmadmgfoaaGreatDoorK05
namespace Go.Proofs.YtennppmadmgfoaaGreatDoor
open Proofs.Tryz
set_option maxRecDepth 100000
set_option maxHeartbeats 8000000
section
open Go.RowKit
theorem Q7 {p:Prop} (h:p:=by
 obtain ⟨at1,ct1,rfl,_⟩:=ap R2'.out.1;rw [show (ga N).length=N from by simp [ga]] at R2' ⊢;have c0:=aj KB x0.out m0;have c1:=aj KB x1.out m1;have C0:=KL c0;have C1:=KL c1;have XW:=KL xw;have XM:=KL xm;have K2:=KL KB;have d10:=ae c0 10;have d11:=ae c0 11;have d12:=ae c0 12;have y17:=ae xw 17;have yf17:=az xw 17;simp only [ko,Le,Lc,Lb] at d10 d11 d12 y17;have nn0:w.heap.size≠bw:=by omega
 clear c0 c1 xw xm KB;go_wp2_with fail;have KA:=KL (K2.out.setCell (p:=⟨bw,17,none⟩) nb6 (.slice at1 N ct1));have XA:=KL (aR (j:=17) XW.out (.slice at1 N ct1));have RA:=KL (aD (p:=⟨bw,17,none⟩) R2'.out nb3 (.slice at1 N ct1));have XMA:=KL (aY (j:=17) (u:=(.slice at1 N ct1)) XM.out nb4.symm);generalize w2.setCell ⟨bw,17,none⟩ (.slice at1 N ct1)=w3 at KA XA RA XMA ⊢;refine (uN _ _ _ _ HBd.out).mono ?_;rintro e w4 ⟨rfl,hb4⟩;have K4:=KL (KA.out.trans (hb4.mono KA.out.size));have lw3:=lt_of_block XA.out;have X4:Hid (w4.heap[bw]?=some (.cells (ko (N:Int) num den tries warm drain idle connect retries most bn bd bb ww wf wh (.slice at1 N ct1) (.slice (some ⟨bm,0,none⟩) 12 12) 0 (.slice none 0 0)) 56 (0,0))):=aj hb4 XA.out lw3;have R4:=KL (iB RA.out hb4);have M4:=KL (aj hb4 XMA.out (lt_of_block XMA.out));have y23:=ae X4.out 23;have yf23:=az X4.out 23;simp only [ko,Le,Lc,Lb] at y23;clear hb4 d10 d11 d12 y17 yf17;go_wp2_with fail;have KA5:=KL (K4.out.setCell (p:=⟨bw,23,none⟩) nb6 (.int .i64 (bb*bd)));have XA5:=KL (aR (j:=23) X4.out (.int .i64 (bb*bd)));have RA5:=KL (aD (p:=⟨bw,23,none⟩) R4.out nb3 (.int .i64 (bb*bd)));have MA5:=KL (aY (j:=23) (u:=.int .i64 (bb*bd)) M4.out nb4.symm);generalize w4.setCell ⟨bw,23,none⟩ (.int .i64 (bb*bd))=w5 at KA5 XA5 RA5 MA5 ⊢;refine (uL 0 _ (by omega) (by omega)).mono ?_;rintro e w6 ⟨vl,rfl,R6,hb6⟩;have K6:=KL (KA5.out.trans (hb6.mono KA5.out.size));have X6:Hid (w6.heap[bw]?=some (.cells (ko (N:Int) num den tries warm drain idle connect retries most bn bd bb ww wf wh (.slice at1 N ct1) (.slice (some ⟨bm,0,none⟩) 12 12) (bb*bd) (.slice none 0 0)) 56 (0,0))):=aj hb6 XA5.out (lt_of_block XA5.out);have R6':=KL (iB RA5.out hb6);have M6:=KL (aj hb6 MA5.out (lt_of_block MA5.out));have lw5:=lt_of_block XA5.out;have L6:=KL (aJ (B':=bw+1) R6 (by omega));clear R6;obtain ⟨al1,cl1,rfl,_⟩:=pH L6.out.1;rw [show (vj 25).length=25 from by simp [vj]] at L6 ⊢;have y24:=ae X6.out 24;have yf24:=az X6.out 24;have y25:=ae X6.out 25;have yf25:=az X6.out 25;simp only [ko,Le,Lc,Lb] at y24 y25;have XF:Hid (((w6.setCell ⟨bw,24,none⟩ (.int .i64 0)).setCell ⟨bw,25,none⟩ (.slice al1 25 cl1)).heap[bw]?=some (.cells (ko (N:Int) num den tries warm drain idle connect retries most bn bd bb ww wf wh (.slice at1 N ct1) (.slice (some ⟨bm,0,none⟩) 12 12) (bb*bd) (.slice al1 25 cl1)) 56 (0,0))):=aR (j:=25) (aR (j:=24) X6.out (.int .i64 0)) (.slice al1 25 cl1);have C6:=KL (aY (j:=25) (u:=(.slice al1 25 cl1)) (aY (j:=24) (u:=.int .i64 0) (aj K6.out x1.out m1) (show w.heap.size+1≠bw by omega)) (show w.heap.size+1≠bw by omega));have RF:=KL (aD (p:=⟨bw,25,none⟩) (aD (p:=⟨bw,24,none⟩) R6'.out nb3 (.int .i64 0)) nb3 (.slice al1 25 cl1));have LF:=KL (aD (p:=⟨bw,25,none⟩) (aD (p:=⟨bw,24,none⟩) L6.out (Nat.lt_succ_self bw) (.int .i64 0)) (Nat.lt_succ_self bw) (.slice al1 25 cl1));have MF:=KL (aY (j:=25) (u:=(.slice al1 25 cl1)) (aY (j:=24) (u:=.int .i64 0) M6.out nb4.symm) nb4.symm);have KF:=KL ((K6.out.setCell (p:=⟨bw,24,none⟩) nb6 (.int .i64 0)).setCell (p:=⟨bw,25,none⟩) nb6 (.slice al1 25 cl1));clear hb6;go_wp2_with (first|(refine LO rfl 56 (.tmp 5) rfl bw rfl 56 (ko (N:Int) num den tries warm drain idle connect retries most bn bd bb ww wf wh (.slice at1 N ct1) (.slice (some ⟨bm,0,none⟩) 12 12) (bb*bd) (.slice al1 25 cl1)) (0,0) _ XF.out underlying56 rfl (by kernel_rfl) ?_)|(refine LP rfl 56 (.tmp 2) (.tmp 34) rfl (w.heap.size+1) (ko (N:Int) num den tries warm drain idle connect retries most bn bd bb ww wf wh (.slice at1 N ct1) (.slice (some ⟨bm,0,none⟩) 12 12) (bb*bd) (.slice al1 25 cl1)) rfl rfl 56 bS C6.out (by kernel_rfl) rfl (rC _ _ _ _ _ _ _ _ _ _ _ _ _ _ _ _ _ _ _ _ _ _ _ _ _ _) ?_));refine LN (v:=.tuple #[.agg (ko (N:Int) num den tries warm drain idle connect retries most bn bd bb ww wf wh (.slice at1 N ct1) (.slice (some ⟨bm,0,none⟩) 12 12) (bb*bd) (.slice al1 25 cl1)),.int .i64 0]) ?_ rfl ?_;rotate_left
 ·exact ⟨_,_,_,rfl,(mb RF.out nb7 _).1,hz_row (HHZ.out ▸ bD MF.out (by omega)),(mb LF.out (by omega) _).1,aV (B0.out.trans (KF.out.mono (by omega))) (by omega)⟩
 exact fe results10 _ _ (w.heap.size+1) 56 (ko (N:Int) num den tries warm drain idle connect retries most bn bd bb ww wf wh (.slice at1 N ct1) (.slice (some ⟨bm,0,none⟩) 12 12) (bb*bd) (.slice al1 25 cl1)) (0,0) _ _ rfl rfl (bB C6.out) underlying56 rfl (by kernel_rfl)):p:=h
theorem Q41 {p:Prop} (h:p:=by
 go_wp2
 all_goals first|(go_ret;exact ⟨rI HCd.out.symm,B2.out⟩)|exact Zx):p:=h
theorem Q45 {p:Prop} (h:p:=by
 go_wp2
 all_goals first|(go_ret;exact ⟨rI (by first|exact HP.out|(have:=HP.out;simp;omega)|(have:=HP.out;omega)),Zb⟩)|exact Zx):p:=h
theorem Q57 {p:Prop} (h:p:=by
 have hn:¬ oZ ⟨kd,ky,sl,gn,gd,rq,bk,wt⟩:=fun h=>by have:=HIn.out.2 h _ HMem.out;unfold C7 at this;simp only at this;omega
 rcases HC.out with ⟨h,_⟩|⟨_,_,h⟩|⟨_,h,_⟩|⟨_,h,_⟩
 ·exact absurd HY.out h
 ·exact h
 all_goals exact absurd h hn):p:=h
theorem Q59 {p:Prop} (h:p:=by
 go_wp2_with fail;go_quiet (fail);go_wp2;go_roundw
 case rel=>exact ⟨k+1,k,by go_num,rfl,by omega,HN.out,aM (HB.out.trans (hbx.out.mono (by omega))),by simp;omega,by simpa using y0,by simpa using y1⟩
 case measure=>simp [intOf];omega):p:=h
theorem Q79 {p:Prop} (h:p:=by
 go_wp2;refine LN (v:=.tuple #[.int .i64 bk,.int .i64 0]) ?_ rfl ?_;(focus (first|(simp [results,results101,go_sem];done)|(simp [results,results101,go_sem, *];done)));exact ⟨rfl,Zb⟩):p:=h
theorem Q84 {p:Prop} (h:p:=by
 go_in;go_wp2
 all_goals first|(go_ret;exact ⟨rB HV.out,Zb⟩)|exact Zx):p:=h
theorem Q89 {p:Prop} (h:p:=by
 clear hc;go_wp2_with fail;go_quiet (fail);go_wp2
 all_goals first|(go_ret;exact ⟨rI HCd.out.symm,aM (B1.out.trans ((HB.out.alloc HB.out.size _).mono (by omega)))⟩)|exact Zx):p:=h
theorem Q140 {p:Prop} (h:p:=by
 rw [rounds_succ];go_wp2;go_quiet (fail);go_wp2;rw [rounds_succ];go_wp2;go_quiet (fail);exact Q45):p:=h
theorem Q144 {p:Prop} (h:p:=by
 rcases hf with rfl|rfl
 ·exact ⟨l1,(c 2).trans rfl⟩
 ·exact ⟨l1,(c 3).trans rfl⟩):p:=h
theorem Q150 {p:Prop} (h:p:=by
 subst this;clear hr;go_in;go_wp2
 all_goals exact Zf):p:=h
def ju (L:List Ld) (i:Nat):Int:=if i=0 then -1 else (L.getD (i - 1) Ld.zero).backend
def oW (L:List Ld) (i:Nat):Prop:=ju L i<(L.getD i Ld.zero).backend/\(L.getD i Ld.zero).backend<=11/\0<=(L.getD i Ld.zero).weight/\(L.getD i Ld.zero).weight<=8/\0<=(L.getD i Ld.zero).flows/\(L.getD i Ld.zero).flows<=40
def eJ (L:List Ld):Prop:=L.length<=12/\∀ i,i<L.length->oW L i
theorem xP {L:List Ld}:∀ {i:Nat},(∀ j,j<i->oW L j)->-1<=ju L i
 | 0,_=>by simp [ju]
 | i+1,h=>by
  have z:=xP (i:=i) (fun j I=>h j (by omega));have E:=(h i (by omega)).1;simp only [ju,Nat.add_sub_cancel,if_neg (by omega:¬ i+1=0)];omega
theorem Fu {L:List Ld} {i:Nat} (h:∀ j,j<i->oW L j):ju L i<=11:=by
 cases i with
 | zero=>simp [ju]
 | succ i=>
  simp only [ju,Nat.add_sub_cancel,if_neg (by omega:¬ i+1=0)];exact (h i (by omega)).2.1
theorem qZ (v:Value) (L:List Ld) (r:Bool) (w:World) (hv:aK w 3 v (L.map Ld.cells)) (hr:(eJ L/\r=true)\/(¬ eJ L/\r=false)) :
  Calls prog 44 #[v] w fun e w'=>e=.returned (.bool r)/\Below w.heap.size w w':=by
 have Z:=KL hr
 obtain ⟨a,c,rfl,l,m,n,p⟩:=aO Ld.zero hv
 have P:=KL p
 clear hv p l m n hr
 by_cases h12:L.length<=12
 rotate_left
 ·have g1:(12:Int)<(L.length:Int):=by omega
  obtain rfl:r=false:=by rcases Z.out with ⟨h,_⟩|⟨_,h⟩;exact absurd h.1 h12;exact h
  clear Z h12;go_in;go_wp2
  all_goals exact Zf
 have g1:(L.length:Int)<=12:=by omega
 go_in
 go_wp2
 go_loopw [3,11] (fun I i wr=>∃ k:Nat,k<=L.length/\i=.int .i64 k/\I=.int .i64 (ju L k)/\Below w.heap.size w wr/\∀ E,E<k->oW L E) (fun _ i _=>L.length - (intOf i).toNat)
 case atStart=>exact ⟨0,La _,rfl,rfl,KM _ _,fun E hj=>by omega⟩
 case round=>
  obtain ⟨k,hk,rfl,rfl,hb,a5⟩:=hrel;have HA:=KL a5;have HB:=KL hb;have lo:=xP a5;have hi:=Fu a5;clear a5;rcases (show k<L.length\/L.length=k by omega) with a7|ad
  ·have an:(k:Int)<(L.length:Int):=by omega
   obtain ⟨b0,o0,rfl,ac,q⟩:=P.out (by intro h;rw [h] at a7;simp at a7);obtain ⟨K,hs⟩:∃ K,K=L.getD k Ld.zero:=⟨_,rfl⟩
   have hold:∀ E,E<3->wr.cell? ⟨b0,o0+k*3+E,none⟩=K.cells[E]?:=fun E hj=>by
    rw [hb.cell (p:=⟨b0,o0+k*3+E,none⟩) ac,hs];exact q k E a7 hj
   have a0:=hold 0 (by omega);have a1:=hold 1 (by omega);have a2:=hold 2 (by omega)
   have a9:oW L k↔(ju L k<K.backend/\K.backend<=11/\0<=K.weight/\K.weight<=8/\0<=K.flows/\K.flows<=40):=by rw [hs];exact Iff.rfl
   have ab:ju L (k+1)=K.backend:=by simp only [ju,Nat.add_sub_cancel,if_neg (by omega:¬ k+1=0)];rw [hs]
   obtain ⟨I,a6⟩:∃ I,I=ju L k:=⟨_,rfl⟩;rw [<- a6] at a9 lo hi;have HX:=KL (And.intro a9 ab);have al:=KL a6;rw [<- a6];clear hold hs q a9 ab a6 hb;obtain ⟨z,J,U⟩:=K;simp only [Ld.cells,Lb,Lc,Nat.add_zero] at a0 a1 a2;rcases (show ((z<=I))\/((I<z)/\(12<=z))\/((I<z)/\(z<=11)/\(J<0))\/((I<z)/\(z<=11)/\(0<=J)/\(8<J))\/((I<z)/\(z<=11)/\(0<=J)/\(J<=8)/\(U<0))\/((I<z)/\(z<=11)/\(0<=J)/\(J<=8)/\(0<=U)/\(40<U))\/((I<z)/\(z<=11)/\(0<=J)/\(J<=8)/\(0<=U)/\(U<=40)) by (rcases (show (z<=I)\/(I<z) by omega) with W|W;exact Or.inl W;(rcases (show (12<=z)\/(z<=11) by omega) with Y|Y;exact Or.inr (Or.inl ⟨W,Y⟩);(rcases (show (J<0)\/(0<=J) by omega) with a3|a3;exact Or.inr (Or.inr (Or.inl ⟨W,Y,a3⟩));(rcases (show (8<J)\/(J<=8) by omega) with a4|a4;exact Or.inr (Or.inr (Or.inr (Or.inl ⟨W,Y,a3,a4⟩)));(rcases (show (U<0)\/(0<=U) by omega) with a8|a8;exact Or.inr (Or.inr (Or.inr (Or.inr (Or.inl ⟨W,Y,a3,a4,a8⟩))));(rcases (show (40<U)\/(U<=40) by omega) with aa|aa;exact Or.inr (Or.inr (Or.inr (Or.inr (Or.inr (Or.inl ⟨W,Y,a3,a4,a8,aa⟩)))));exact Or.inr (Or.inr (Or.inr (Or.inr (Or.inr (Or.inr (⟨W,Y,a3,a4,a8,aa⟩))))))))))))) with hs0|⟨hs0,hs1⟩|⟨hs0,hs1,hs2⟩|⟨hs0,hs1,hs2,hs3⟩|⟨hs0,hs1,hs2,hs3,hs4⟩|⟨hs0,hs1,hs2,hs3,hs4,hs5⟩|⟨hs0,hs1,hs2,hs3,hs4,hs5⟩
   rotate_right
   ·have HN:Hid (∀ E,E<k+1->oW L E):=fun E hj=>by
     rcases (show E<k\/E=k by omega) with h|rfl
     ·exact HA.out E h
     ·exact HX.out.1.2 ⟨hs0,by omega,hs2,hs3,hs4,hs5⟩
    have ak:z<12:=by omega
    go_wp2;go_roundw
    case rel=>exact ⟨k+1,by omega,by go_num,by rw [HX.out.2],HB.out.alloc HB.out.size _,HN.out⟩
    case measure=>simp [intOf];omega
   all_goals
    have af:Hid (r=false):=by
     rcases Z.out with ⟨h,_⟩|⟨_,h⟩
     ·have:=HX.out.1.1 (h.2 k a7);simp only at this;omega
     ·exact h
    (try have ak:z<12:=by omega)
    clear Z
    go_wp2
    all_goals first|(go_ret;exact ⟨rB af.out.symm,HB.out.alloc HB.out.size _⟩)|exact Zx
  ·have am:¬ (k:Int)<(L.length:Int):=by omega
   have ag:Hid (r=true):=by
    rcases Z.out with ⟨_,h⟩|⟨h,_⟩
    ·exact h
    ·exact absurd ⟨h12,fun i hi=>HA.out i (by omega)⟩ h
   clear Z hb ad;go_wp2
   all_goals first|(go_ret;exact ⟨rB ag.out.symm,HB.out⟩)|exact Zx
theorem ya:(prog.info? 3).map (fun i=>(i.zero,i.size,i.bytes))=some (some (.int .i64 0),1,8):=by kernel_rfl
def km (L:List Ld):Int:=(L.map (·.weight)).sum
def sd (num den flows total:Int) (x:Ld):Int:=if 0<x.weight then GQ num den flows x.weight total else 0
def cD (L:List Ld) (num den flows:Int):List Int:=L.map (sd num den flows (km L))
theorem kW {L:List Ld} {k:Nat} (h:k<L.length):km (L.take (k+1))=km (L.take k)+(L.getD k Ld.zero).weight:=by
 unfold km;rw [Li h,LG,List.sum_append];simp [List.getD,h]
theorem qc {L:List Ld} (h:eJ L):∀ {k:Nat},k<=L.length->0<=km (L.take k)/\km (L.take k)<=8*k
 | 0,_=>by simp [km]
 | k+1,hk=>by
  have:=qc h (k:=k) (by omega);have z:=h.2 k (by omega);unfold oW at z;rw [kW (by omega)];omega
theorem tc {L:List Ld} (z:eJ L):∀ {m k:Nat},k<=m->m<=L.length->km (L.take k)<=km (L.take m)
 | 0,k,h,_=>by rw [show k=0 by omega];exact Int.le_refl _
 | m+1,k,h,hm=>by
  rcases (show k=m+1\/k<=m by omega) with rfl|h
  ·exact Int.le_refl _
  ·have:=tc z h (by omega:m<=L.length);have E:=z.2 m (by omega);unfold oW at E;rw [kW (by omega)];omega
theorem Ic {L:List Ld} (h:eJ L) {k:Nat} (E:k<L.length):(L.getD k Ld.zero).weight<=km L:=by
 have z:=tc h (by omega:k+1<=L.length) (KY _);rw [kW E,Lo (KY _)] at z;have:=(qc h (by omega:k<=L.length)).1;omega
theorem Id {L:List Ld} (h:eJ L):km L<=96:=by
 have z:=(qc h (KY _)).2;rw [Lo (KY _)] at z;have:=h.1;omega
def nV (w:World) (Y:List Int) (code:Int) (e:Ending) (w':World):Prop:=∃ v,e=.returned (.tuple #[v,.int .i64 code])/\aN w.heap.size w' 1 v (Y.map fun x=>[Value.int .i64 x])/\Below w.heap.size w w'
def gO (num den flows:Int):Prop:=1<=den/\den<=num/\num<=20/\0<=flows/\flows<=40
def nX (L:List Ld) (num den flows:Int) (Y:List Int) (code:Int):Prop:=(¬ eJ L/\Y=[]/\code=6)\/(eJ L/\¬ gO num den flows/\Y=[]/\code=2)\/(eJ L/\gO num den flows/\Y=cD L num den flows/\code=0)
theorem intrel (l:List Int):∀ c∈l.map (fun x=>[Value.int .i64 x]),c.length=1:=by
 exact Q28
theorem FJ (l:List Int):(l.map fun x=>[Value.int .i64 x]).flatten=l.map (Value.int .i64):=by
 induction l with
 | nil=>rfl
 | cons x l ih=>simp only [List.map_cons,List.flatten_cons];rw [ih];rfl
theorem zJ {num den flows:Int} (h:¬ gO num den flows):den<1\/(1<=den/\num<den)\/(1<=den/\den<=num/\20<num)\/(1<=den/\den<=num/\num<=20/\flows<0)\/(1<=den/\den<=num/\num<=20/\0<=flows/\40<flows):=by
 unfold gO at h;omega
theorem sN (v:Value) (L:List Ld) (num den flows:Int) (w:World) (z:aK w 3 v (L.map Ld.cells)) (E:¬ eJ L):Calls prog 30 #[v,.int .i64 num,.int .i64 den,.int .i64 flows] w (nV w [] 6):=by
 have H:=KL E;have I:=KL z;obtain ⟨K,U,rfl,_⟩:=ap z;clear E z;go_in;go_wp2_with (go_at_call 44;refine (qZ _ L false _ I.out (Or.inr ⟨H.out,rfl⟩)).mono ?_;rintro W w1 ⟨rfl,h⟩;obtain ⟨Y,Z⟩:=aX h;have a0:=fX h;have J:=h.size;(try simp at J));refine LN (v:=.tuple #[.slice none 0 0,.int .i64 6]) ?_ rfl ⟨_,rfl,bH _ _ _,h⟩;simp [results,results30,go_sem]
theorem jZ (v:Value) (L:List Ld) (num den flows:Int) (w:World) (I:aK w 3 v (L.map Ld.cells)) (J:eJ L) (K:¬ gO num den flows):Calls prog 30 #[v,.int .i64 num,.int .i64 den,.int .i64 flows] w (nV w [] 2):=by
 have H:=KL J;have W:=KL I;obtain ⟨a,c,rfl,_⟩:=ap I;clear J I;rcases zJ K with h|⟨h,E⟩|⟨h,E,U⟩|⟨h,E,U,Y⟩|⟨h,E,U,Y,h7⟩
 all_goals
  clear K
  go_in
  go_wp2_with (first|(go_at_call 44;refine (qZ _ L true _ W.out (Or.inl ⟨H.out,rfl⟩)).mono ?_;rintro e w1 ⟨rfl,z⟩;obtain ⟨a0,a1⟩:=aX z;have a2:=fX z;have Z:=z.size;(try simp at Z))|go_in)
  refine LN (v:=.tuple #[.slice none 0 0,.int .i64 2]) ?_ rfl ⟨_,rfl,bH _ _ _,z⟩
  simp [results,results30,go_sem]
def CpRel (w wr:World) (L:List Ld) (num den flows:Int) (g k:Nat):Prop:=Below w.heap.size w wr/\w.heap.size<=g/\wr.ownsRow w.heap.size 3 1 (.slice (some ⟨g,0,none⟩) L.length L.length) L.length (((cD L num den flows).take k++List.replicate (L.length - k) 0).map (Value.int .i64))
theorem ud {L:List Ld} {num den flows:Int} {k:Nat} {s:Ld} (E:k<L.length) (I:s=L.getD k Ld.zero) :
  ((cD L num den flows).take (k+1)++List.replicate (L.length - (k+1)) 0)=((cD L num den flows).take k++List.replicate (L.length - k) 0).set k (sd num den flows (km L) s):=by
 have h:(cD L num den flows).length=L.length:=by simp [cD]
 have z:(cD L num den flows).take k++List.replicate (L.length - k) (0:Int)=(cD L num den flows).take k++(0 :: List.replicate (L.length - (k+1)) 0):=by
  rw [<- List.replicate_succ,show L.length - (k+1)+1=L.length - k by omega]
 rw [z,List.set_append_right _ _ (by simp [h];omega),Ls,h,show k - min k L.length=0 by omega,List.set_cons_zero,Li (by omega)]
 simp [cD,I,List.getD,E]
theorem Em {α:Type} {l:List α} {k:Nat} {x:α} (h:l[k]?=some x):l.set k x=l:=by
 apply List.ext_getElem?;intro E;rw [List.getElem?_set];by_cases hj:k=E
 ·subst hj
  have:k<l.length:=by
   rcases Nat.lt_or_ge k l.length with z|z
   ·exact z
   ·rw [Lu z] at h
    cases h
  rw [if_pos rfl,if_pos this,h]
 ·rw [if_neg hj]
theorem uc {L:List Ld} {num den flows:Int} {k:Nat} (z:k<L.length):((cD L num den flows).take k++List.replicate (L.length - k) 0)[k]?=some 0:=by
 have h:(cD L num den flows).length=L.length:=by simp [cD]
 rw [LU (by rw [Ls];omega),Ls,h,show k - min k L.length=0 by omega,List.getElem?_replicate,if_pos (by omega)]
theorem DG {L:List Ld} {num den flows:Int} {k:Nat} {s:Ld} (h:k<L.length) (z:s=L.getD k Ld.zero) (E:¬ 0<s.weight) :
  ((cD L num den flows).take (k+1)++List.replicate (L.length - (k+1)) 0)=((cD L num den flows).take k++List.replicate (L.length - k) 0):=by
 rw [ud h z]
 have:sd num den flows (km L) s=0:=by simp [sd,E]
 rw [this]
 exact Em (uc h)
theorem mX (v:Value) (L:List Ld) (num den flows:Int) (w:World) (hv:aK w 3 v (L.map Ld.cells)) (h:eJ L) (h2:gO num den flows):Calls prog 30 #[v,.int .i64 num,.int .i64 den,.int .i64 flows] w (nV w (cD L num den flows) 0):=by
 obtain ⟨i0,hi,aw,ax,ay⟩:=info_parts ya;have H:=KL h;have R:=KL hv;obtain ⟨a,c,rfl,l,m,n,p⟩:=aO Ld.zero hv;have P:=KL p;have aL:L.length<=12:=h.1;have hF:=KL h2;have al:=Id h;obtain ⟨d1,d2,d3,d4,d5⟩:=h2;clear h hv p l m n;go_in;go_wp2_with (first|(go_at_call 44;refine (qZ _ L true _ R.out (Or.inl ⟨H.out,rfl⟩)).mono ?_;rintro e w1 ⟨rfl,a7⟩;obtain ⟨ar,au⟩:=aX a7;have aH:=fX a7;have aF:=a7.size;(try simp at aF))|go_in);go_loopw [10,33] (fun t Z wr=>∃ k:Nat,k<=L.length/\Z=.int .i64 k/\t=.int .i64 (km (L.take k))/\Below w.heap.size w wr) (fun _ Z _=>L.length - (intOf Z).toNat)
 case atStart=>exact ⟨0,La _,rfl,rfl,a7⟩
 case round=>
  obtain ⟨k,hk,rfl,rfl,U⟩:=hrel;have Y:=KL U;clear ar au aH a7;have t1:=qc H.out hk;rcases (show k<L.length\/L.length=k by omega) with E|a8
  ·have aA:(k:Int)<(L.length:Int):=by omega
   obtain ⟨b0,o0,rfl,aa,q⟩:=P.out (by intro h;rw [h] at E;simp at E);obtain ⟨z,K⟩:∃ z,z=L.getD k Ld.zero:=⟨_,rfl⟩
   have hold:∀ I,I<3->wr.cell? ⟨b0,o0+k*3+I,none⟩=z.cells[I]?:=fun I hj=>by
    rw [U.cell (p:=⟨b0,o0+k*3+I,none⟩) aa,K];exact q k I E hj
   have a0:=hold 0 (by omega);have a1:=hold 1 (by omega);have a2:=hold 2 (by omega);have J:oW L k:=H.out.2 k E;have W:=KL (kW E);rw [<- K] at W
   have a3:0<=z.weight/\z.weight<=8:=by unfold oW at J;rw [<- K] at J;exact ⟨J.2.2.1,J.2.2.2.1⟩
   obtain ⟨a3,ab⟩:=a3;clear hold K q J U;obtain ⟨bk,wt,fl⟩:=z;simp only [Ld.cells,Lb,Lc,Nat.add_zero] at a0 a1 a2 a3 ab;go_wp2;go_roundw
   case rel=>exact ⟨k+1,by omega,by go_num,by rw [W.out],Y.out.alloc Y.out.size _⟩
   case measure=>simp [intOf];omega
  ·have a9:¬ (k:Int)<(L.length:Int):=by omega
   obtain ⟨T,hT⟩:∃ T,T=km (L.take k):=⟨_,rfl⟩
   have HT:Hid (T=km L):=by rw [hT,Lo (by omega)];rfl
   rw [<- hT] at t1 ⊢;clear U hT;have aS:=KL a8;clear a8;go_wp2_with (at_make;go_loud (refine wpList_make_full _ rfl _ _ 124 rfl w.heap.size 3 i0 (.int .i64 0) 1 underlying124 hi aw ax .i64 .i64 L.length L.length L.length rfl rfl rfl rfl ?c1 ?c2 ?c3 ?_))
   case c1=>((try rw [ay]);omega)
   case c2=>unfold maxLen;omega
   case c3=>exact Y.out.size
   intro w2 a5 af
   have hm:(madeCells #[.int .i64 0] L.length).toList=(((cD L num den flows).take 0++List.replicate (L.length - 0) 0).map (Value.int .i64)):=by
    have h:=fH #[.int .i64 0] L.length (by decide);rw [show L.length*(#[Value.int IntKind.i64 0]).size=L.length by simp] at h;rw [h];simp
   rw [hm] at a5;have B0:Below wr.heap.size wr w2:=(KM _ _).grown af (by simp) (fun k hk=>by cases hk);have ac:=KL (Y.out.trans (B0.mono Y.out.size));have HO:=KL a5;obtain ⟨g,hg⟩:∃ g,g=wr.heap.size:=⟨_,rfl⟩
   have av:w.heap.size<=g:=by have:=Y.out.size;omega
   rw [<- hg] at HO ⊢;clear a5 af B0 hg Y hm;go_wp2_with fail;go_loopw [47] (fun Z wr=>∃ k:Nat,k<=L.length/\Z=.int .i64 k/\CpRel w wr L num den flows g k) (fun Z _=>L.length - (intOf Z).toNat)
   case atStart=>exact ⟨0,La _,rfl,ac.out,av,HO.out⟩
   case round=>
    obtain ⟨k,hk,rfl,U,ad,a5⟩:=hrel;have a6:=KL U;have a4:=KL a5;clear ac HO a5;have gl:g<wr.heap.size:=(a4.out.lt _ rfl).2;rcases (show k<L.length\/L.length=k by omega) with E|a8
    ·have aA:(k:Int)<(L.length:Int):=by omega
     obtain ⟨b0,o0,rfl,aa,q⟩:=P.out (by intro h;rw [h] at E;simp at E);obtain ⟨z,K⟩:∃ z,z=L.getD k Ld.zero:=⟨_,rfl⟩
     have hold:∀ I,I<3->wr.cell? ⟨b0,o0+k*3+I,none⟩=z.cells[I]?:=fun I hj=>by
      rw [U.cell (p:=⟨b0,o0+k*3+I,none⟩) aa,K];exact q k I E hj
     have a0:=hold 0 (by omega);have a1:=hold 1 (by omega);have a2:=hold 2 (by omega);have J:oW L k:=H.out.2 k E
     have a9:z.weight<=T:=by rw [HT.out,K];exact Ic H.out E
     have ao:T<=96:=by rw [HT.out];exact al
     have a3:0<=z.weight/\z.weight<=8:=by unfold oW at J;rw [<- K] at J;exact ⟨J.2.2.1,J.2.2.2.1⟩
     obtain ⟨a3,ab⟩:=a3;have an:=KL (fun W=>DG (num:=num) (den:=den) (flows:=flows) E K W);have ak:(((cD L num den flows).take (k+1)++List.replicate (L.length - (k+1)) 0).map (Value.int .i64))=(((cD L num den flows).take k++List.replicate (L.length - k) 0).map (Value.int .i64)).set k (.int .i64 (sd num den flows (km L) z)):=by rw [ud E K,List.map_set]
     have e1:wr.cell? ⟨g,k,none⟩=some (.int .i64 0):=by rw [a4.out.cellAt k (by omega),List.getElem?_map,uc E];rfl
     have e2:wr.frozen? ⟨g,k,none⟩=false:=a4.out.frozenAt k;have HS:=KL ak;clear hold K q J U ak;obtain ⟨bk,wt,fl⟩:=z;simp only [Ld.cells,Lb,Lc,Nat.add_zero] at a0 a1 a2 a3 ab a9;by_cases W:0<wt
     ·have ag:I5 num den flows wt T:=⟨d1,d2,d3,d4,d5,by omega,a9,ao⟩;have HM:=KL ag
      have HV:Hid (GQ num den flows wt T=sd num den flows (km L) ⟨bk,wt,fl⟩):=by rw [HT.out];simp [Hid,sd,W]
      clear ag;go_wp2_with (go_at_call 46;refine (EE _ _ _ _ _ _ HM.out).mono ?_;rintro e w' ⟨rfl,rfl⟩);go_roundw
      case rel=>exact ⟨k+1,by omega,by go_num,(a6.out.setCell Zs _).alloc (by simp;exact a6.out.size) _,ad,by rw [HS.out,<- HV.out];exact (a4.out.stored k _).1.alloc _⟩
      case measure=>simp [intOf];omega
     ·have hd:decide (0<wt)=false:=by simpa using W
      go_wp2;go_roundw
      case rel=>exact ⟨k+1,by omega,by go_num,a6.out.alloc a6.out.size _,ad,by rw [an.out W];exact a4.out.alloc _⟩
      case measure=>simp [intOf];omega
    ·have a9:¬ (k:Int)<(L.length:Int):=by omega
     have am:=KL a8;clear U a8;go_wp2;refine LN (v:=.tuple #[.slice (some ⟨g,0,none⟩) L.length L.length,.int .i64 0]) ?_ rfl ⟨_,rfl,?_,a6.out⟩
     ·simp [results,results30,go_sem, *]
     ·refine aG (e:=3) (n:=L.length) ?_ (by simp [cD]) (intrel _);have h:=a4.out
      have e:(cD L num den flows).take k++List.replicate (L.length - k) 0=cD L num den flows:=by
       have:=am.out;rw [Lo (by simp [cD];omega),show L.length - k=0 by omega];simp
      rw [e] at h;rw [FJ];exact h
structure Cf where
 flows:Int
 num:Int
 den:Int
 tries:Int
 warm:Int
 drain:Int
 idle:Int
 connect:Int
 retries:Int
 most:Int
 bn:Int
 bd:Int
 bb:Int
 ww:Int
 wf:Int
 wh:Int
 deriving DecidableEq
def Cf.cells (x:Cf):List Value:=[.int .i64 x.flows,.int .i64 x.num,.int .i64 x.den,.int .i64 x.tries,.int .i64 x.warm,.int .i64 x.drain,.int .i64 x.idle,.int .i64 x.connect,.int .i64 x.retries,.int .i64 x.most,.int .i64 x.bn,.int .i64 x.bd,.int .i64 x.bb,.int .i64 x.ww,.int .i64 x.wf,.int .i64 x.wh]
def Cf.zero:Cf:=⟨0,0,0,0,0,0,0,0,0,0,0,0,0,0,0,0⟩
def CfBase (x:Cf):Prop:=(0<=x.warm/\x.warm<=500/\1<=x.drain/\x.drain<=500/\1<=x.idle/\x.idle<=500/\1<=x.connect/\x.connect<=500)/\(1<=x.den/\x.den<=x.num/\x.num<=20)/\(1<=x.flows/\x.flows<=40/\0<=x.tries/\x.tries<=12/\0<=x.retries/\x.retries<=20/\0<=x.most/\x.most<=100)
def jC (x:Cf):Prop:=CfBase x/\io x.bn x.bd x.bb/\im x.ww x.wf x.wh
theorem mf (n E z:Int) (w:World) (I:E<=n) (J:n<=z):Calls prog 29 #[.int .i64 n,.int .i64 E,.int .i64 z] w fun e w'=>e=.returned (.bool true)/\w=w':=by
 go_in;go_wp2
 all_goals first|(go_ret;exact ⟨rfl,rfl⟩)|exact Zx
theorem ss:eJ []:=⟨by simp,fun i h=>by simp at h⟩
def CnPost (w:World) (code:Int) (e:Ending) (w':World):Prop:=∃ v,e=.returned (.tuple #[v,.int .i64 code])/\Below w.heap.size w w'
def KJ (num den h:Int):Prop:=(gO num den 0/\h=0)\/(¬ gO num den 0/\h=2)
theorem sM (num den code:Int) (w:World) (h:KJ num den code):Calls prog 30 #[.slice none 0 0,.int .i64 num,.int .i64 den,.int .i64 0] w (CnPost w code):=by
 rcases h with ⟨h,rfl⟩|⟨h,rfl⟩
 ·exact (mX _ [] num den 0 w (iG w 3) ss h).mono fun J K ⟨I,E,_,z⟩=>⟨I,E,z⟩
 ·exact (jZ _ [] num den 0 w (iG w 3) ss h).mono fun J K ⟨I,E,_,z⟩=>⟨I,E,z⟩
theorem kF (flows num den tries a4 drain idle connect a3 most W U K ww wf wh:Int) (w:World) (h:jC ⟨flows,num,den,tries,a4,drain,idle,connect,a3,most,W,U,K,ww,wf,wh⟩):Calls prog 21 #[.agg #[.int .i64 flows,.int .i64 num,.int .i64 den,.int .i64 tries,.int .i64 a4,.int .i64 drain,.int .i64 idle,.int .i64 connect,.int .i64 a3,.int .i64 most,.int .i64 W,.int .i64 U,.int .i64 K,.int .i64 ww,.int .i64 wf,.int .i64 wh]] w fun e w'=>e=.returned (.int .i64 0)/\Below w.heap.size w w':=by
 obtain ⟨⟨⟨a5,a6,a7,a8,a9,aa,ab,ac⟩,⟨Y,Z,d3⟩,⟨ad,af,ag,ak,al,am,an,ao⟩⟩,a0,a2⟩:=h;obtain ⟨z,a1⟩:∃ z:Int,z=0:=⟨_,rfl⟩;have HF:Hid (KJ num den z):=Or.inl ⟨⟨Y,Z,d3,by omega,by omega⟩,a1⟩;subst a1;have HB:=KL a0;have HW:=KL a2;clear a0 a2;simp only at a5 a6 a7 a8 a9 aa ab ac Y Z d3 ad af ag ak al am an ao;go_in;go_wp2_with (first|(go_at_call 29;first|(refine (mf _ _ _ _ (by omega) (by omega)).mono ?_;rintro e w' ⟨rfl,rfl⟩)|(refine (within_no _ _ _ _ (by omega)).mono ?_;rintro e w' ⟨rfl,rfl⟩))|(go_at_call 30;refine (sM num den 0 _ HF.out).mono ?_;rintro e w1 ⟨v1,rfl,E⟩;obtain ⟨aw,aA⟩:=aX E;have aL:=fX E;have ar:=E.size;(try simp at ar))|(go_at_call 31;refine (jf _ _ _ _ HB.out).mono ?_;rintro e w2 ⟨rfl,I⟩;obtain ⟨ax,aF⟩:=aX I;have aS:=fX I;have au:=I.size;(try simp at au))|(go_at_call 32;refine (iQ _ _ _ _ HW.out).mono ?_;rintro e w3 ⟨rfl,J⟩;obtain ⟨ay,aH⟩:=aX J;have aT:=fX J;have av:=J.size;(try simp at av)))
 all_goals exact Zf
theorem EM {a n:Nat} (h:a / 8=n / 8):bK a n=a % 8:=by unfold bK;rw [if_pos h]
theorem EK {a n:Nat} (h:¬ a / 8=n / 8) (z:a / 64=n / 64):bK a n=8+a / 8 % 8:=by unfold bK;rw [if_neg h,if_pos z]
theorem EJ {a n:Nat} (h:¬ a / 8=n / 8) (z:¬ a / 64=n / 64) (E:a / 512=n / 512):bK a n=16+a / 64 % 8:=by unfold bK;rw [if_neg h,if_neg z,if_pos E]
theorem EH {a n:Nat} (h:¬ a / 8=n / 8) (z:¬ a / 64=n / 64) (E:¬ a / 512=n / 512):bK a n=24:=by unfold bK;rw [if_neg h,if_neg z,if_neg E]
theorem mq (a n:Nat) (w:World) (E:a<=2199023255552) (I:n<=2199023255552):Calls prog 131 #[.int .i64 a,.int .i64 n] w fun e w'=>e=.returned (.int .i64 (bK a n:Nat))/\Below w.heap.size w w':=by
 obtain ⟨p,z⟩:∃ p,p=bK a n:=⟨_,rfl⟩;rw [<- z];have b1:(a:Int)<=2199023255552:=by omega
 have b2:(n:Int)<=2199023255552:=by omega
 have b3:(0:Int)<=(a:Int):=by omega
 have b4:(0:Int)<=(n:Int):=by omega
 by_cases h1:a / 8=n / 8
 ·have HP:=KL (show ((a:Int) % 8)=(p:Int) by rw [z,EM h1];omega)
  have J:((a:Int) / 8 == (n:Int) / 8)=true:=by rw [beq_iff_eq];omega
  have K:(a:Int) / 8=(n:Int) / 8:=by omega
  clear z h1 E I;go_in;go_wp2;refine wp_loop_rounds 4 ?_;rw [rounds_succ];go_wp2;go_quiet (fail);exact Q45
 ·by_cases h2:a / 64=n / 64
  ·have HP:=KL (show (8+(a:Int) / 8 % 8)=(p:Int) by rw [z,EK h1 h2];omega)
   have J:((a:Int) / 8 == (n:Int) / 8)=false:=by rw [beq_eq_false_iff_ne];omega
   have K:¬ (a:Int) / 8=(n:Int) / 8:=by omega
   have U:((a:Int) / 64 == (n:Int) / 64)=true:=by rw [beq_iff_eq];omega
   have W:(a:Int) / 64=(n:Int) / 64:=by omega
   clear z h1 h2 E I;go_in;go_wp2;refine wp_loop_rounds 4 ?_;exact Q140
  ·by_cases h3:a / 512=n / 512
   ·have HP:=KL (show (16+(a:Int) / 64 % 8)=(p:Int) by rw [z,EJ h1 h2 h3];omega)
    have J:((a:Int) / 8 == (n:Int) / 8)=false:=by rw [beq_eq_false_iff_ne];omega
    have K:¬ (a:Int) / 8=(n:Int) / 8:=by omega
    have U:((a:Int) / 64 == (n:Int) / 64)=false:=by rw [beq_eq_false_iff_ne];omega
    have W:¬ (a:Int) / 64=(n:Int) / 64:=by omega
    have Y:((a:Int) / 512 == (n:Int) / 512)=true:=by rw [beq_iff_eq];omega
    have Z:(a:Int) / 512=(n:Int) / 512:=by omega
    clear z h1 h2 h3 E I;go_in;go_wp2;refine wp_loop_rounds 4 ?_;rw [rounds_succ];go_wp2;go_quiet (fail);go_wp2;exact Q140
   ·have HP:=KL (show (24:Int)=(p:Int) by rw [z,EH h1 h2 h3];rfl)
    have J:((a:Int) / 8 == (n:Int) / 8)=false:=by rw [beq_eq_false_iff_ne];omega
    have K:¬ (a:Int) / 8=(n:Int) / 8:=by omega
    have U:((a:Int) / 64 == (n:Int) / 64)=false:=by rw [beq_eq_false_iff_ne];omega
    have W:¬ (a:Int) / 64=(n:Int) / 64:=by omega
    have Y:((a:Int) / 512 == (n:Int) / 512)=false:=by rw [beq_eq_false_iff_ne];omega
    have Z:¬ (a:Int) / 512=(n:Int) / 512:=by omega
    clear z h1 h2 h3 E I;go_in;go_wp2;refine wp_loop_rounds 4 ?_;rw [rounds_succ];go_wp2;go_quiet (fail);go_wp2;rw [rounds_succ];go_wp2;go_quiet (fail);go_wp2;rw [rounds_succ];go_wp2;go_quiet (fail);go_wp2;rw [rounds_succ];exact Q45
theorem jp (t:Tm) (now:Int) (w:World) (Z:0<=now) (h1:now<=1099511627776) (r:Bool) (hr:(dN t now/\r=true)\/(¬ dN t now/\r=false)):Calls prog 130 #[.agg #[.int .i64 t.at_,.int .i64 t.id],.int .i64 now] w fun e w'=>e=.returned (.bool r)/\Below w.heap.size w w':=by
 obtain ⟨z,E⟩:=t;simp only [dN] at hr;rcases (show ((¬ now<z))\/((now<z)/\(¬ z<=now+500))\/((now<z)/\(z<=now+500)/\(¬ z<=1099511627776))\/((now<z)/\(z<=now+500)/\(z<=1099511627776)/\(¬ 0<=E))\/((now<z)/\(z<=now+500)/\(z<=1099511627776)/\(0<=E)/\(¬ E<200))\/((now<z)/\(z<=now+500)/\(z<=1099511627776)/\(0<=E)/\(E<200)) by (rcases (show (¬ now<z)\/(now<z) by omega) with I|I;exact Or.inl I;(rcases (show (¬ z<=now+500)\/(z<=now+500) by omega) with J|J;exact Or.inr (Or.inl ⟨I,J⟩);(rcases (show (¬ z<=1099511627776)\/(z<=1099511627776) by omega) with K|K;exact Or.inr (Or.inr (Or.inl ⟨I,J,K⟩));(rcases (show (¬ 0<=E)\/(0<=E) by omega) with U|U;exact Or.inr (Or.inr (Or.inr (Or.inl ⟨I,J,K,U⟩)));(rcases (show (¬ E<200)\/(E<200) by omega) with Y|Y;exact Or.inr (Or.inr (Or.inr (Or.inr (Or.inl ⟨I,J,K,U,Y⟩))));exact Or.inr (Or.inr (Or.inr (Or.inr (Or.inr (⟨I,J,K,U,Y⟩))))))))))) with hs0|⟨hs0,hs1⟩|⟨hs0,hs1,hs2⟩|⟨hs0,hs1,hs2,hs3⟩|⟨hs0,hs1,hs2,hs3,hs4⟩|⟨hs0,hs1,hs2,hs3,hs4⟩
 ·have:r=false:=by rcases hr with ⟨h,_⟩|⟨_,h⟩;omega;exact h
  exact Q150
 ·have:r=false:=by rcases hr with ⟨h,_⟩|⟨_,h⟩;omega;exact h
  subst this;clear hr;have W:decide (z<=now+500)=false:=by simpa using hs1
  go_in;go_wp2
  all_goals exact Zf
 ·have:r=false:=by rcases hr with ⟨h,_⟩|⟨_,h⟩;omega;exact h
  subst this;clear hr;have W:decide (z<=1099511627776)=false:=by simpa using hs2
  go_in;go_wp2
  all_goals exact Zf
 ·have:r=false:=by rcases hr with ⟨h,_⟩|⟨_,h⟩;omega;exact h
  subst this;clear hr;have W:decide (0<=E)=false:=by simpa using hs3
  go_in;go_wp2
  all_goals exact Zf
 ·have:r=false:=by rcases hr with ⟨h,_⟩|⟨_,h⟩;omega;exact h
  subst this;clear hr;have W:decide (E<200)=false:=by simpa using hs4
  go_in;go_wp2
  all_goals exact Zf
 ·have:r=true:=by rcases hr with ⟨_,h⟩|⟨h,_⟩;exact h;omega
  exact Q150
def kL (b:Int) (x:Ld):Bool:=x.backend == b && decide (0<x.weight)
def jJ (L:List Ld) (C:List Int) (i:Nat):Bool:=decide ((L.getD i Ld.zero).flows<C.getD i 0)
def dM (L:List Ld) (C:List Int):List Int->Int->Int
 | [],_=>-1
 | b :: bs,t=>if aU (kL b) L<0 then dM L C bs t else if t=0 then -1 else if jJ L C (aU (kL b) L).toNat=true then aU (kL b) L else dM L C bs (t - 1)
def ru (L:List Ld) (C:List Int) (i:Nat):Prop:=0<(L.getD i Ld.zero).weight/\jJ L C i=true
def tz (L:List Ld) (i:Nat):Int:=(L.getD i Ld.zero).flows
def sD (L:List Ld) (i:Nat):Int:=(L.getD i Ld.zero).weight
def eK (L:List Ld) (C:List Int) (a n:Nat) (b:Int):Prop:=(b=-1/\∀ i,a<=i->i<n->¬ ru L C i)\/∃ m:Nat,b=m/\a<=m/\m<n/\ru L C m/\(∀ i,a<=i->i<n->ru L C i->tz L m*sD L i<=tz L i*sD L m)/\(∀ i,a<=i->i<m->ru L C i->tz L m*sD L i<tz L i*sD L m)
theorem yz {E wk h wb z wi:Int} (Y:0<wk) (U:0<wb) (W:0<wi) (J:E*wb<h*wk) (K:h*wi<=z*wb):E*wi<z*wk:=by
 have Z:E*wb*wi<h*wk*wi:=Int.mul_lt_mul_of_pos_right J W;have a2:h*wi*wk<=z*wb*wk:=Int.mul_le_mul_of_nonneg_right K (Int.le_of_lt Y)
 have I:E*wi*wb<z*wk*wb:=by
  have e1:E*wi*wb=E*wb*wi:=by rw [Int.mul_right_comm]
  have e2:h*wk*wi=h*wi*wk:=by rw [Int.mul_right_comm]
  have e3:z*wk*wb=z*wb*wk:=by rw [Int.mul_right_comm]
  omega
 exact Int.lt_of_mul_lt_mul_right I (Int.le_of_lt U)
section
variable {L:List Ld} {C:List Int}
theorem sg (n:Nat):eK L C n n (-1):=Or.inl ⟨rfl,fun i h z=>by omega⟩
theorem mL {k:Nat} {b:Int} (E:eK L C 0 k b) (K:¬ ru L C k):eK L C 0 (k+1) b:=by
 rcases E with ⟨rfl,E⟩|⟨m,rfl,W,h2,Y,Z,h5⟩
 ·exact Or.inl ⟨rfl,fun h z U=>by rcases (show h<k\/h=k by omega) with I|rfl;exact E h z I;exact K⟩
 ·exact Or.inr ⟨m,rfl,W,by omega,Y,fun h z U J=>by rcases (show h<k\/h=k by omega) with I|rfl;exact Z h z I J;exact absurd J K,h5⟩
theorem kT {k:Nat} {b:Int} (J:eK L C 0 k b) (K:ru L C k) (U:b<0\/tz L k*sD L b.toNat<tz L b.toNat*sD L k):eK L C 0 (k+1) k:=by
 rcases J with ⟨rfl,J⟩|⟨m,rfl,h1,h2,Y,Z,h5⟩
 ·refine Or.inr ⟨k,rfl,by omega,by omega,K,fun h E I z=>?_,fun h E I z=>absurd z (J h E I)⟩;rcases (show h<k\/h=k by omega) with W|rfl
  ·exact absurd z (J h E W)
  ·exact Int.le_refl _
 ·have a0:tz L k*sD L m<tz L m*sD L k:=by
   rcases U with U|U
   ·omega
   ·simpa using U
  refine Or.inr ⟨k,rfl,by omega,by omega,K,fun h E I z=>?_,fun h E I z=>yz K.1 Y.1 z.1 a0 (Z h E I z)⟩;rcases (show h<k\/h=k by omega) with W|rfl
  ·exact Int.le_of_lt (yz K.1 Y.1 z.1 a0 (Z h E W z))
  ·exact Int.le_refl _
theorem nQ {k:Nat} {b:Int} (z:eK L C 0 k b) (hn:0<=b) (E:¬ tz L k*sD L b.toNat<tz L b.toNat*sD L k):eK L C 0 (k+1) b:=by
 rcases z with ⟨rfl,z⟩|⟨m,rfl,U,h2,W,Y,Z⟩
 ·omega
 ·refine Or.inr ⟨m,rfl,U,by omega,W,fun h I c J=>?_,Z⟩;rcases (show h<k\/h=k by omega) with K|rfl
  ·exact Y h I K J
  ·simp at E;exact E
theorem GZ {n:Nat} {b b':Int} (I:eK L C 0 n b) (h':eK L C 0 n b'):b=b':=by
 rcases I with ⟨rfl,I⟩|⟨h,rfl,_,U,J,h4,h5⟩<;>rcases h' with ⟨rfl,k⟩|⟨z,rfl,_,W,K,k4,k5⟩
 ·rfl
 ·exact absurd K (I z (by omega) W)
 ·exact absurd J (k h (by omega) U)
 ·rcases (show h<z\/h=z\/z<h by omega) with E|E|E
  ·have Y:=k5 h (by omega) E J;have Z:=h4 z (by omega) W K;omega
  ·rw [E]
  ·have Y:=h5 z (by omega) E K;have Z:=k4 h (by omega) U J;omega
theorem BG {n:Nat} {b:Int} (h:eK L C 0 n b):b=-1\/∃ m:Nat,b=m/\m<n:=by
 rcases h with ⟨rfl,h⟩|⟨m,rfl,_,z,_⟩
 ·exact Or.inl rfl
 ·exact Or.inr ⟨m,rfl,z⟩
theorem sm:∀ (h:List Int) (t:Int),dM L C h t=-1\/∃ m:Nat,dM L C h t=m/\m<L.length
 | [],_=>Or.inl rfl
 | b :: h,t=>by
  unfold dM
  split
  ·exact sm h t
  ·split
   ·exact Or.inl rfl
   ·split
    ·rcases bM (kL b) L Ld.zero with ⟨z,_⟩|⟨I,z,E,_⟩
     ·omega
     ·exact Or.inr ⟨I,E,z⟩
    ·exact sm h (t - 1)
theorem Aq {h:List Int} {k:Nat} (z:k<h.length) (t:Int):dM L C (h.drop k) t=if aU (kL (h.getD k 0)) L<0 then dM L C (h.drop (k+1)) t else if t=0 then -1 else if jJ L C (aU (kL (h.getD k 0)) L).toNat=true then aU (kL (h.getD k 0)) L else dM L C (h.drop (k+1)) (t - 1):=by
 have E:h.drop k=h.getD k 0 :: h.drop (k+1):=by rw [List.drop_eq_getElem_cons z];simp [List.getD,z]
 rw [E]
 rfl
end
def BN (z:List Int) (L:List Ld) (num den flows tries:Int) (b code:Int):Prop:=
 (∃ I,nX L num den flows I code/\code≠0/\b=0)\/
 (eJ L/\gO num den flows/\(tries<0\/(0<=tries/\12<tries)\/(0<=tries/\tries<=12/\12<z.length))/\b=0/\code=2)\/
 (eJ L/\gO num den flows/\0<=tries/\tries<=12/\z.length<=12/\(∀ E∈L,¬ 0<E.weight)/\b=0/\code=11)\/
 (eJ L/\gO num den flows/\0<=tries/\tries<=12/\z.length<=12/\(∃ E∈L,0<E.weight)/\
  ((∃ h:Nat,h<L.length/\dM L (cD L num den flows) z tries=h/\b=(L.getD h Ld.zero).backend/\code=0)\/
   (dM L (cD L num den flows) z tries=-1/\∃ h:Nat,h<L.length/\eK L (cD L num den flows) 0 L.length h/\b=(L.getD h Ld.zero).backend/\code=0)\/
   (dM L (cD L num den flows) z tries=-1/\eK L (cD L num den flows) 0 L.length (-1)/\b=0/\code=9)))
def oM (C:List Int):List (List Value):=C.map fun x=>[Value.int .i64 x]
theorem yf {w:World} {v:Value} {C:List Int} (E:aK w 1 v (oM C)):∃ (a:Option Addr) (z:Nat),v=.slice a C.length z/\(C≠[]->∃ b h,a=some ⟨b,h,none⟩/\b<w.heap.size/\∀ i,i<C.length->w.cell? ⟨b,h+i,none⟩=some (.int .i64 (C.getD i 0))):=by
 obtain ⟨a,z,rfl,_,_,_,I⟩:=aO 0 E;refine ⟨a,z,rfl,fun W=>?_⟩;obtain ⟨b,h,rfl,J,K⟩:=I W;exact ⟨b,h,rfl,J,fun i U=>by have:=K i 0 U (by omega);simpa using this⟩
theorem of1 (x:Ld) (b:Nat) (E:Int) (w:World) (h:w.cell? ⟨b,0,none⟩=some (.int .i64 E)):Calls prog 182 #[Ld.agg x,.pointer (some ⟨b,0,none⟩)] w fun e w'=>e=.returned (.bool (kL E x))/\Below w.heap.size w w':=by
 obtain ⟨z,I,J⟩:=x;have U:=bV h;unfold Ld.agg;by_cases h1:z=E
 ·subst h1;by_cases h2:0<I
  ·have HV:Hid (true=kL z ⟨z,I,J⟩):=by simp [Hid,kL,h2]
   exact Q84
  ·have HV:Hid (false=kL z ⟨z,I,J⟩):=by simp [Hid,kL,h2]
   have K:decide (0<I)=false:=by simpa using h2
   exact Q84
 ·have HV:Hid (false=kL E ⟨z,I,J⟩):=by simp [Hid,kL,h1]
  have K:(z == E)=false:=by simpa using h1
  clear h1;exact Q84
theorem qp (v E:Value) (L:List Ld) (b:Int) (w:World) (z:aK w 3 v (L.map Ld.cells)) (hn:L.length<=12) (W:∃ a n c,E=.slice a n c) :
  Calls prog 164 #[.agg #[v,E],.int .i64 b] w fun e w'=>e=.returned (.int .i64 (aU (kL b) L))/\Below w.heap.size w w':=by
 have K:=KL z
 obtain ⟨a,c,rfl,_⟩:=ap z
 obtain ⟨Z,n',c',rfl⟩:=W
 clear z
 go_in
 go_wp2_with fail
 refine (Db 182 ⟨w.heap.size+1,0,none⟩ (fun _ _=>rfl) (kL b) _ L _ (ai (ai K.out _) _) (by omega) (fun Y _ w' U=>of1 Y _ b w' (aC U (by go_simp)))).mono ?_
 rintro e w1 ⟨rfl,I⟩
 have J:=KL (((((KM w.heap.size w).alloc (KY _) _).alloc (by simp) _)).trans (I.mono (by simp;omega)))
 clear I
 go_wp2
 all_goals first|(go_ret;exact ⟨rfl,J.out⟩)|exact Zx
theorem jo (v J:Value) (L:List Ld) (C:List Int) (i:Nat) (w:World) (W:aK w 3 v (L.map Ld.cells)) (K:aK w 1 J (oM C)) (E:i<L.length) (U:C.length=L.length) :
  Calls prog 165 #[.agg #[v,J],.int .i64 i] w fun e w'=>e=.returned (.bool (jJ L C i))/\Below w.heap.size w w':=by
 obtain ⟨a,c,rfl,_,_,_,p⟩:=aO Ld.zero W
 obtain ⟨b0,o0,rfl,a0,Z⟩:=p (by intro h;rw [h] at E;simp at E)
 obtain ⟨a',c',rfl,Y⟩:=yf K
 obtain ⟨b1,o1,rfl,a1,q'⟩:=Y (by intro h;rw [h] at U;simp at U;omega)
 have I:=Z i 2 E (by omega)
 have d0:=q' i (by omega)
 have z:Hid (decide ((L.getD i Ld.zero).flows<C.getD i 0)=jJ L C i):=rfl
 have a3:(i:Int)<(L.length:Int):=by omega
 have a4:(i:Int)<(C.length:Int):=by omega
 have p0:(0:Int)<=(i:Int):=by omega
 generalize (L.getD i Ld.zero)=s at I z
 generalize C.getD i 0=cc at d0 z
 obtain ⟨bk,wt,fl⟩:=s
 simp only [Ld.cells,Lb,Lc] at I z
 clear Z q' p Y W K
 go_in
 go_wp2_with fail
 go_quiet (fail)
 go_wp2
 all_goals first|(go_ret;exact ⟨rB z.out,Zb⟩)|exact Zx
theorem mB (v cv wv:Value) (L:List Ld) (C z:List Int) (tries:Int) (w:World) (hv:aK w 3 v (L.map Ld.cells)) (hc:aK w 1 cv (oM C)) (hw:aK w 1 wv (oM z)) (hn:L.length<=12) (hl:C.length=L.length) (hk:z.length<=12) (t0:0<=tries) (t1:tries<=12) :
  Calls prog 143 #[.agg #[v,cv],wv,.int .i64 tries] w fun e w'=>e=.returned (.int .i64 (dM L C z tries))/\Below w.heap.size w w':=by
 have RV:=KL hv
 have RC:=KL hc
 obtain ⟨a,c,rfl,_⟩:=ap hv
 obtain ⟨a',c',rfl,_⟩:=yf hc
 obtain ⟨a2,c2,rfl,pw⟩:=yf hw
 have PW:=KL pw
 have a8:=KL hl
 clear hv hc hw pw hl
 go_in
 go_wp2
 go_step3
 go_wp2
 go_step3
 go_wp2
 go_loopw [2,7,13] (fun t f i wr=>∃ (E:Nat) (I:Int),E<=z.length/\i=.int .i64 E/\t=.int .i64 I/\f=.int .i64 (-1)/\0<=I/\I<=12/\dM L C z tries=dM L C (z.drop E) I/\Below w.heap.size w wr/\w.heap.size<wr.heap.size/\wr.cell? ⟨w.heap.size,0,none⟩=some (.slice a L.length c)/\wr.cell? ⟨w.heap.size,1,none⟩=some (.slice a' C.length c')) (fun _ _ i _=>z.length - (intOf i).toNat)
 case atStart=>exact ⟨0,tries,La _,rfl,rfl,rfl,t0,t1,rfl,(KM _ _).alloc (KY _) _,by simp,by go_simp,by go_simp⟩
 case round=>
  obtain ⟨E,I,af,rfl,rfl,rfl,t2,t3,a9,Y,a4,c0,c1⟩:=hrel;have Z:=KL a9;have HB:=KL Y;clear a9;rcases (show E<z.length\/z.length=E by omega) with a1|ad
  ·have ag:(E:Int)<(z.length:Int):=by omega
   obtain ⟨b0,o0,rfl,ac,q⟩:=PW.out (by intro h;rw [h] at a1;simp at a1);obtain ⟨b,a7⟩:∃ b,b=z.getD E 0:=⟨_,rfl⟩
   have a0:wr.cell? ⟨b0,o0+E,none⟩=some (.int .i64 b):=by rw [Y.cell (p:=⟨b0,o0+E,none⟩) ac,a7];exact q E a1
   have HD:=KL (Aq (L:=L) (C:=C) a1 I);rw [<- a7] at HD;have W:=KL (aq RV.out Y);have R2:=KL (aq RC.out Y);clear Y a7 q;rcases bM (kL b) L Ld.zero with ⟨hi,_⟩|⟨i,hi,he,_⟩
   ·have HI:=KL hi
    have J:Hid (dM L C z tries=dM L C (z.drop (E+1)) I):=by show _=_;rw [Z.out,HD.out,if_pos (by omega)]
    clear hi;go_wp2_with fail;refine (qp _ _ L b _ W.out hn ⟨_,_,_,rfl⟩).mono ?_;rintro e w1 ⟨rfl,hb1⟩;rw [HI.out];have U:=KL (HB.out.trans (hb1.mono (Nat.le_of_lt a4)));have e0:=KL (aC hb1 c0);have e1:=KL (aC hb1 c1);have s1:=hb1.size;clear hb1;go_wp2;go_roundw
    case rel=>exact ⟨E+1,I,by omega,by go_num,rfl,rfl,t2,t3,J.out,U.out,by omega,e0.out,e1.out⟩
    case measure=>simp [intOf];omega
   ·have HI:=KL he;have i0:¬ (i:Int)<0:=by omega
    rw [he] at HD;simp only [Lm,if_neg i0] at HD;clear he;rcases (show I=0\/0<I by omega) with rfl|ak
    ·have J:Hid (dM L C z tries=-1):=by show _=_;rw [Z.out];have:=HD.out;rw [if_pos rfl] at this;exact this
     go_wp2_with fail;refine (qp _ _ L b _ W.out hn ⟨_,_,_,rfl⟩).mono ?_;rintro e w1 ⟨rfl,hb1⟩;rw [HI.out];have U:=KL (HB.out.trans (hb1.mono (Nat.le_of_lt a4)));clear hb1;go_wp2
     all_goals first|(go_ret;exact ⟨rI J.out.symm,U.out⟩)|(simp only [Exit.noGoto];go_ret;exact ⟨rI J.out.symm,U.out⟩)
    ·have al:(I == 0)=false:=by simp;omega
     have ab:¬ I=0:=by omega
     by_cases hr:jJ L C i=true
     ·have J:Hid (dM L C z tries=i):=by show _=_;rw [Z.out];have:=HD.out;rw [if_neg ab] at this;simpa [hr] using this
      have a6:=KL hr;clear hr;go_wp2_with fail;refine (qp _ _ L b _ W.out hn ⟨_,_,_,rfl⟩).mono ?_;rintro e w1 ⟨rfl,hb1⟩;rw [HI.out];have U:=KL (HB.out.trans (hb1.mono (Nat.le_of_lt a4)));have e0:=aC hb1 c0;have e1:=aC hb1 c1;have Q1:=KL (aq W.out hb1);have Q2:=KL (aq R2.out hb1);clear hb1;go_wp2_with fail;refine (jo _ _ L C i _ Q1.out Q2.out hi a8.out).mono ?_;rintro e w2 ⟨rfl,hb2⟩;rw [a6.out];have B2:=KL (U.out.trans (hb2.mono U.out.size));clear hb2;go_wp2
      all_goals first|(go_ret;exact ⟨rI J.out.symm,B2.out⟩)|(simp only [Exit.noGoto];go_ret;exact ⟨rI J.out.symm,B2.out⟩)
     ·have aa:jJ L C i=false:=by simpa using hr
      have J:Hid (dM L C z tries=dM L C (z.drop (E+1)) (I - 1)):=by show _=_;rw [Z.out];have:=HD.out;rw [if_neg ab] at this;simpa [hr] using this
      have a6:=KL aa;clear hr aa;go_wp2_with fail;refine (qp _ _ L b _ W.out hn ⟨_,_,_,rfl⟩).mono ?_;rintro e w1 ⟨rfl,hb1⟩;rw [HI.out];have U:=KL (HB.out.trans (hb1.mono (Nat.le_of_lt a4)));have e0:=aC hb1 c0;have e1:=aC hb1 c1;have Q1:=KL (aq W.out hb1);have Q2:=KL (aq R2.out hb1);have s1:=hb1.size;clear hb1;go_wp2_with fail;refine (jo _ _ L C i _ Q1.out Q2.out hi a8.out).mono ?_;rintro e w2 ⟨rfl,hb2⟩;rw [a6.out];have B2:=KL (U.out.trans (hb2.mono U.out.size));have g0:=KL (aC hb2 e0);have g1:=KL (aC hb2 e1);have s2:=hb2.size;clear hb2;go_wp2;go_roundw
      case rel=>exact ⟨E+1,I - 1,by omega,by go_num,by go_num,rfl,by omega,by omega,J.out,B2.out,by omega,g0.out,g1.out⟩
      case measure=>simp [intOf];omega
  ·have hge:¬ (E:Int)<(z.length:Int):=by omega
   have J:Hid (dM L C z tries=-1):=by show _=_;rw [Z.out,List.drop_eq_nil_of_le (by omega)];rfl
   clear Y ad;go_wp2
   all_goals first|(go_ret;exact ⟨rI J.out.symm,HB.out⟩)|exact Zx
theorem Ft {L:List Ld} (h:eJ L) {i:Nat} (z:i<L.length):0<=(L.getD i Ld.zero).weight/\(L.getD i Ld.zero).weight<=8/\0<=(L.getD i Ld.zero).flows/\(L.getD i Ld.zero).flows<=40:=by
 have:=h.2 i z;unfold oW at this;exact ⟨this.2.2.1,this.2.2.2.1,this.2.2.2.2.1,this.2.2.2.2.2⟩
theorem xH {a b:Int} (h:0<=a) (z:a<=40) (E:0<=b) (I:b<=8):IntKind.i64.wrap (a*b)=a*b:=by
 have:=jb h z E I;exact LK _ (by omega)
def LsRel (w wr:World) (v h:Value) (L:List Ld) (C:List Int) (k:Nat) (b:Int):Prop:=k<=L.length/\eK L C 0 k b/\Below w.heap.size w wr/\w.heap.size<wr.heap.size/\wr.cell? ⟨w.heap.size,0,none⟩=some v/\wr.cell? ⟨w.heap.size,1,none⟩=some h
theorem rb (v cv:Value) (L:List Ld) (C:List Int) (b:Int) (w:World) (hv:aK w 3 v (L.map Ld.cells)) (E:aK w 1 cv (oM C)) (hm:eJ L) (hl:C.length=L.length) (hB:eK L C 0 L.length b) :
  Calls prog 144 #[.agg #[v,cv]] w fun e w'=>e=.returned (.int .i64 b)/\Below w.heap.size w w':=by
 have RV:=KL hv
 have RC:=KL E
 have ak:=KL hB
 have HM:=KL hm
 have aH:=hm.1
 obtain ⟨a,c,rfl,_,_,_,p⟩:=aO Ld.zero hv
 have P:=KL p
 obtain ⟨a',c',rfl,_⟩:=yf E
 have a9:=KL hl
 clear hv E hB hm p hl
 go_in
 go_wp2
 go_loopw [3,9] (fun t i wr=>∃ (k:Nat) (U:Int),i=.int .i64 k/\t=.int .i64 U/\LsRel w wr (.slice a L.length c) (.slice a' C.length c') L C k U) (fun _ i _=>L.length - (intOf i).toNat)
 case atStart=>exact ⟨0,-1,rfl,rfl,La _,sg 0,(KM _ _).alloc (KY _) _,by simp,by go_simp,by go_simp⟩
 case round=>
  obtain ⟨k,U,rfl,rfl,hk,a4,Z,bb,c0,c1⟩:=hrel;have HS:=KL a4;have HB:=KL Z;rcases (show k<L.length\/L.length=k by omega) with I|af
  ·have aT:(k:Int)<(L.length:Int):=by omega
   have p0:(0:Int)<=(k:Int):=by omega
   obtain ⟨b0,o0,rfl,aF,q⟩:=P.out (by intro h;rw [h] at I;simp at I)
   have hq:∀ i j,i<L.length->j<3->wr.cell? ⟨b0,o0+i*3+j,none⟩=(L.getD i Ld.zero).cells[j]?:=fun i j hi hj=>by
    rw [Z.cell (p:=⟨b0,o0+i*3+j,none⟩) aF];exact q i j hi hj
   have HQ:=KL hq;obtain ⟨J,hs⟩:∃ J,J=L.getD k Ld.zero:=⟨_,rfl⟩;have ac:=KL hs;have a0:=hq k 0 I (by omega);have a1:=hq k 1 I (by omega);have a2:=hq k 2 I (by omega);have bd:=Ft HM.out I;rw [<- hs] at a0 a1 a2 bd;have lt:=BG a4;have Q1:=KL (aq RV.out Z);have Q2:=KL (aq RC.out Z);clear hs hq q Z a4;obtain ⟨bk,wt,W⟩:=J;simp only [Ld.cells,Lb,Lc,Nat.add_zero] at a0 a1 a2 bd;obtain ⟨al,an,ao,ar⟩:=bd;have lb:b0<wr.heap.size:=bV a0
   have hW:Hid (sD L k=wt):=by show _=_;unfold sD;rw [<- ac.out]
   have hF:Hid (tz L k=W):=by show _=_;unfold tz;rw [<- ac.out]
   rcases (show wt=0\/0<wt by omega) with rfl|bc
   ·have HN:Hid (eK L C 0 (k+1) U):=mL HS.out (fun h=>by have h1:=h.1;have h2:=hW.out;unfold sD at h2;omega);go_wp2;go_roundw
    case rel=>exact ⟨k+1,U,by go_num,rfl,by omega,HN.out,HB.out.alloc (by omega) _,by simp;omega,aI _ c0,aI _ c1⟩
    case measure=>simp [intOf];omega
   ·have hwz:(wt == 0)=false:=by simp;omega
    by_cases hr:jJ L C k=true;rotate_left
    ·have ag:jJ L C k=false:=by simpa using hr
     have a8:=KL ag;have HN:Hid (eK L C 0 (k+1) U):=mL HS.out (fun h=>hr h.2);clear hr ag;go_wp2_with (first|(go_at_call 165;refine (jo _ _ L C k _ (ai Q1.out _) (ai Q2.out _) I a9.out).mono ?_;rintro e w1 ⟨rfl,hb1⟩;rw [a8.out]));have hbx:Hid (Below wr.heap.size wr w1):=((KM _ _).alloc (KY _) _).trans (hb1.mono (by simp));have s1:=hb1.size;simp at s1;clear hb1;go_wp2;go_roundw
     case rel=>exact ⟨k+1,U,by go_num,rfl,by omega,HN.out,HB.out.trans (hbx.out.mono (by omega)),by omega,aC hbx.out c0,aC hbx.out c1⟩
     case measure=>simp [intOf];omega
    ·have ab:Hid (ru L C k):=⟨by have h2:=hW.out;unfold sD at h2;omega,hr⟩;have a8:=KL hr;clear hr;rcases lt with rfl|⟨z,rfl,ba⟩
     ·have HN:Hid (eK L C 0 (k+1) k):=kT HS.out ab.out (Or.inl (by omega));go_wp2_with (first|(go_at_call 165;refine (jo _ _ L C k _ (ai Q1.out _) (ai Q2.out _) I a9.out).mono ?_;rintro e w1 ⟨rfl,hb1⟩;rw [a8.out]));have hbx:Hid (Below wr.heap.size wr w1):=((KM _ _).alloc (KY _) _).trans (hb1.mono (by simp));have Y:=aj hb1 (aB (w:=wr) (.cells #[.int .i64 bk,.int .i64 wt,.int .i64 W] 154) rfl) (by simp);have x1:=ae Y 1;have x2:=ae Y 2;simp at x1 x2;have s1:=hb1.size;simp at s1;have y0:=aC hbx.out c0;have y1:=aC hbx.out c1;clear hb1 Y;exact Q59
     ·have aa:z<L.length:=by omega
      have b8:(z:Int)<(L.length:Int):=by omega
      have p1:(0:Int)<=(z:Int):=by omega
      obtain ⟨J,hs⟩:∃ J,J=L.getD z Ld.zero:=⟨_,rfl⟩;have d1:=HQ.out z 1 aa (by omega);have d2:=HQ.out z 2 aa (by omega);have be:=Ft HM.out aa;rw [<- hs] at d1 d2 be
      have aA:Hid (sD L z=J.weight):=by show _=_;unfold sD;rw [<- hs]
      have ay:Hid (tz L z=J.flows):=by show _=_;unfold tz;rw [<- hs]
      clear hs;obtain ⟨bm,wm,fm⟩:=J;simp only [Ld.cells,Lb,Lc] at d1 d2 be;obtain ⟨au,av,aw,ax⟩:=be;have z1:=xH ao ar au av;have z2:=xH aw ax al an;obtain ⟨P1,a6⟩:∃ P1,P1=W*wm:=⟨_,rfl⟩;obtain ⟨P2,a7⟩:∃ P2,P2=fm*wt:=⟨_,rfl⟩
      have HP:Hid (tz L k*sD L z=P1/\tz L z*sD L k=P2):=by
       rw [Hid,hF.out,hW.out,ay.out,aA.out,a6,a7];exact ⟨rfl,rfl⟩
      go_wp2_with (first|(go_at_call 165;refine (jo _ _ L C k _ (ai Q1.out _) (ai Q2.out _) I a9.out).mono ?_;rintro e w1 ⟨rfl,hb1⟩;rw [a8.out]));have hbx:Hid (Below wr.heap.size wr w1):=((KM _ _).alloc (KY _) _).trans (hb1.mono (by simp));have Y:=aj hb1 (aB (w:=wr) (.cells #[.int .i64 bk,.int .i64 wt,.int .i64 W] 154) rfl) (by simp);have x1:=ae Y 1;have x2:=ae Y 2;simp at x1 x2;have s1:=hb1.size;simp at s1;have y0:=aC hbx.out c0;have y1:=aC hbx.out c1;have u1:=aC hbx.out d1;have u2:=aC hbx.out d2;clear hb1 Y;have b9:¬ (z:Int)<0:=by omega
      have aS:decide ((z:Int)<0)=false:=by simp
      by_cases E:P1<P2
      ·have ad:W*wm<fm*wt:=by rw [<- a6,<- a7];exact E
       have HN:Hid (eK L C 0 (k+1) k):=kT HS.out ab.out (Or.inr (by have h:=HP.out;simp only [Lm];rw [h.1,h.2];exact E));clear E a6 a7;exact Q59
      ·have ad:fm*wt<=W*wm:=by rw [<- a6,<- a7];omega
       have aL:decide (W*wm<fm*wt)=false:=by simpa using ad
       have HN:Hid (eK L C 0 (k+1) z):=nQ HS.out (by omega) (by have h:=HP.out;simp only [Lm];rw [h.1,h.2];exact E);clear E a6 a7;go_wp2_with fail;go_quiet (fail);go_wp2;go_roundw
       case rel=>exact ⟨k+1,z,by go_num,rfl,by omega,HN.out,aM (HB.out.trans (hbx.out.mono (by omega))),by simp;omega,by simpa using y0,by simpa using y1⟩
       case measure=>simp [intOf];omega
  ·have hge:¬ (k:Int)<(L.length:Int):=by omega
   have HE:Hid (U=b):=by rw [<- af] at a4;exact GZ a4 ak.out
   clear Z a4 af;go_wp2
   all_goals first|(go_ret;exact ⟨rI HE.out,HB.out⟩)|exact Zx
end
end Go.Proofs.YtennppmadmgfoaaGreatDoor
