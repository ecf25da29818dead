/- Texts of the row's proof. Conditions: none. -/
import Derived.Test.YtennppmadmgfoaaGreatDoorK12
import Derived.Test.YtennppmadmgfoaaGreatDoorK20
import Derived.Test.YtennppmadmgfoaaGreatDoorK21
import Derived.Test.YtennppmadmgfoaaGreatDoorK22
namespace Go.Proofs.YtennppmadmgfoaaGreatDoor
open Proofs.Tryz
set_option maxRecDepth 100000
set_option maxHeartbeats 8000000
section
open Go.RowKit
theorem Q25 {p:Prop} (h:p:=by
 have HN:=KL (GL HS.out hlt (by simp only;omega));go_wp2_with (first|(refine LO rfl 262 (.tmp 4) rfl (w.heap.size+1+1) rfl 262 (cW (lP X k)) (0,0) _ ((KQ _ _ _ (by omega)).trans Y2.out) underlying262 rfl (cz (gX X k)) ?_)|(refine LP rfl 262 (.tmp 2) (.tmp 25) rfl (w.heap.size+1) (cW (lP X k)) rfl rfl 262 (cW (List.replicate 12 0)) ((KQ _ _ _ (by omega)).trans Y1.out) (cz (gX X k)) (by rw [dx (gX X k)];rfl) (dX _) ?_))
 all_goals
  refine LN (v:=.tuple #[.agg (cW (lP X k)),.bool false]) ?_ rfl (WgtPost.no (gX X k) HN.out ?_)
  ·exact fe results113 _ _ (w.heap.size+1) 262 (cW (lP X k)) (0,0) _ _ rfl rfl (bB ((KQ _ _ _ (by omega)).trans Y1.out)) underlying262 rfl (cz (gX X k))
  ·exact aV (HB.out.alloc (by omega) _) (by omega)):p:=h
theorem Q29 {p:Prop} (h:p:=by
 clear h4;go_wp2_with (first|(refine LO rfl 262 (.tmp 4) rfl (w.heap.size+1+1) rfl 262 (cW (fG X k)) (0,0) _ (id Y2.out) underlying262 rfl (cz (dW X k)) ?_)|(refine LP rfl 262 (.tmp 2) (.tmp 45) rfl (w.heap.size+1) (cW (fG X k)) rfl rfl 262 (cW (List.replicate 12 0)) (id Y1.out) (cz (dW X k)) (by rw [dx (dW X k)];rfl) (dX _) ?_))
 all_goals (refine LN (v:=.tuple #[.agg (cW (fG X k)),.bool false]) ?_ rfl (WgtPost.no (dW X k) HN.out ?_);(focus (exact fe results113 _ _ (w.heap.size+1) 262 (cW (fG X k)) (0,0) _ _ rfl rfl (bB (id Y1.out)) underlying262 rfl (cz (dW X k))));exact aV (HB.out) (by omega))):p:=h
theorem Q48 {p:Prop} (h:p:=by
 have hl:=h.1;rcases h.2 with ⟨rfl,h0⟩|⟨g,cap,cur,rfl,hg,hh,hnc,hcm,hcs,htake⟩
 ·exact Or.inl ⟨rfl,h0⟩
 ·refine Or.inr ⟨g,cap,rfl,fun j u hu=>?_⟩
  have hj:j<n*sz:=by
   rcases Nat.lt_or_ge j (n*sz) with h'|h'
   ·exact h'
   ·rw [Lu (by omega)] at hu
    cases hu
  rw [Go.WideShapes.add_plain,Nat.zero_add,h.cellAt j hj,hu]):p:=h
theorem Q85 {p:Prop} (h:p:=by
 rw [<- Lv,<- LG,Lx]):p:=h
theorem Q90 {p:Prop} (h:p:=by
 have:=cP (B:=B) (wr:=w.drewN 1) (KM _ _) (by simpa using hB) (l8 HOD.out (i:=k) (by omega)) hg3;exact (aM (n:=1) (KM B w)).trans this):p:=h
theorem Q95 {p:Prop} (h:p:=by
 go_in;go_wp2
 all_goals (go_ret2;exact WhOpPost.no HN.out Zb)):p:=h
theorem Q113 {p:Prop} (h:p:=by
 rw [hz];simp [Result.andThen,sliced,show ¬ cap=X.length - 1 by omega,Addr.add_lit,show X.length - (X.length - 1)=1 by omega]):p:=h
theorem Q117 {p:Prop} (h:p:=by
 rw [Li hk,List.filter_append]
 have e:X[k]=s:=by rw [hs];simp [List.getD,hk]
 simp [e,h]):p:=h
theorem Q122 {p:Prop} (h:p:=by
 induction L with
 | nil=>rfl
 | cons x L ih=>simp only [List.map_cons,List.flatten_cons] at ih ⊢;rw [ih];rfl):p:=h
theorem Q128 {p:Prop} (h:p:=by
 rcases Nat.lt_or_ge (k+1) X.length with h|h
 ·exact h
 ·rw [List.drop_of_length_le h] at hu;simp at hu):p:=h
theorem Q156 {p:Prop} (h:p:=by
 simp [Result.andThen,sliced,show ¬ X.length=k by omega,Addr.add_lit,k4]):p:=h
theorem Gc:(prog.info? 181).map (fun i=>(i.zero,i.size,i.bytes))=some (some (.slice none 0 0),1,24):=by kernel_rfl
def WhOpPost (w:World) (now:Int) (LL:List (List Tm)) (e:Ending) (w':World):Prop:=
 (∃ h z V,e=.returned (.tuple #[.pointer (some ⟨h,0,none⟩),.int .i64 0])/\WhMay now LL/\w.heap.size<=h/\h<w'.heap.size/\w'.heap[h]?=some (.cells #[.int .i64 now,z] 239 (0,0))/\eP (h+1) w' z LL V/\Below w.heap.size w w')\/
 (e=.returned (.tuple #[.pointer none,.int .i64 6])/\¬ WhMay now LL/\Below w.heap.size w w')
theorem WhOpPost.no {w w':World} {now:Int} {LL:List (List Tm)} (h:¬ WhMay now LL) (z:Below w.heap.size w w'):WhOpPost w now LL (.returned (.tuple #[.pointer none,.int .i64 6])) w':=Or.inr ⟨rfl,h,z⟩
def Ky (w wr:World) (now:Int) (E:Value) (z:List (List Tm)) (S:List Tm):Prop:=Below w.heap.size w wr/\w.heap.size+1+1<wr.heap.size/\wr.cell? ⟨w.heap.size,0,none⟩=some (.int .i64 now)/\wr.cell? ⟨w.heap.size,1,none⟩=some E/\
 pZ wr (w.heap.size+1+1) (gR S)/\∃ h V,wr.heap[w.heap.size+1]?=some (.cells #[.int .i64 now,h] 239 (0,0))/\eP (w.heap.size+1+1+1) wr h z V
theorem ma {w:World} {b o:Nat} {v u:Value} {p:Addr} (h:w.cell? ⟨b,o,none⟩=some v) (z:b≠p.block):(w.setCell p u).cell? ⟨b,o,none⟩=some v:=
 (Lg (w:=w) (w':=w.setCell p u) (a:=⟨b,o,none⟩) (KV _ _ _ _ z)).trans h
theorem ti {LL:List (List Tm)} {k:Nat} (h:k<LL.length):(LL.take (k+1)).flatten=(LL.take k).flatten++LL.getD k []:=by
 rw [Li h,Lv];simp [List.getD,h]
theorem Iv {LL:List (List Tm)} {k:Nat} (h:k<LL.length):LL.take (k+1)=LL.take k++[LL.getD k []]:=by
 rw [Li h];simp [List.getD,h]
theorem Ed (A B:List Tm):gR (A++B)=gR A++gR B:=by simp [gR]
theorem uy {L:List Tm} {j:Nat} {t:Tm} (z:t=L.getD j Tm.zero) (h:j<L.length):L.take (j+1)=L.take j++[t]:=by
 rw [Li h,z];simp [List.getD,h]
theorem qH {L:List Tm} {j:Nat} {t:Tm} (E:t=L.getD j Tm.zero) (z:j<L.length):t∈L:=by
 have h:L.getD j Tm.zero=L[j]:=by simp [List.getD,z]
 rw [E,h];exact Lp _
theorem DY {now:Int} {LL:List (List Tm)} {k:Nat} {t:Tm} (z:k<25) (I:t∈LL.getD k []) (h:¬ dN t now\/¬ gh t now=k):¬ WhMay now LL:=fun E=>by
 have:=(E.2.2.2.1 k z).1 t I;rcases h with h|h
 ·exact h this.1
 ·exact h this.2
theorem uS {t:Tm} {now:Int} {a n:Nat} (h:t.at_=a) (z:now=n):gh t now=bK a n:=by unfold gh;rw [h,z];rfl
theorem oG (lv:Value) (now:Int) (LL:List (List Tm)) (w:World) (r:lQ w lv LL) (hn:LL.length*24<=140737488351232) (hs:∀ i,i<LL.length->(LL.getD i []).length*16<=140737488351232) :
  Calls prog 90 #[.agg #[.int .i64 now,lv]] w (WhOpPost w now LL):=by
 obtain ⟨i0,hi,hi0,hi1,hi2⟩:=info_parts Gc
 have hmm:=@run_makeMap prog
 have R:=KL r
 obtain ⟨a,cp,rfl⟩:=bL r
 have HS:=KL hs
 clear r hs
 rcases (show ((now<0))\/((¬ now<0)/\(1099511627776<now))\/((¬ now<0)/\(¬ 1099511627776<now)/\(¬ LL.length=25))\/((¬ now<0)/\(¬ 1099511627776<now)/\(LL.length=25)) by (rcases (show (now<0)\/(¬ now<0) by omega) with hx0|hx0;exact Or.inl hx0;(rcases (show (1099511627776<now)\/(¬ 1099511627776<now) by omega) with hx1|hx1;exact Or.inr (Or.inl ⟨hx0,hx1⟩);(rcases (show (¬ LL.length=25)\/(LL.length=25) by omega) with hx2|hx2;exact Or.inr (Or.inr (Or.inl ⟨hx0,hx1,hx2⟩));exact Or.inr (Or.inr (Or.inr (⟨hx0,hx1,hx2⟩))))))) with hs0|⟨hs0,hs1⟩|⟨hs0,hs1,hs2⟩|⟨hs0,hs1,hs2⟩
 ·have HN:=KL (show ¬ WhMay now LL from fun h=>by have:=h.1;omega);exact Q95
 ·have HN:=KL (show ¬ WhMay now LL from fun h=>by have:=h.2.1;omega);exact Q95
 ·have HN:=KL (show ¬ WhMay now LL from fun h=>by have:=h.2.2.1;omega)
  have h25:((LL.length:Int) != 25)=true:=by rw [bne_iff_ne];omega
  clear hs2;exact Q95
 ·have h25:((LL.length:Int) != 25)=false:=by rw [bne_eq_false_iff_eq];omega
  have HL:=KL hs2;rw [hs2] at h25 ⊢;clear hs2;go_in;go_wp2_with fail;obtain ⟨N,rfl⟩:=Lr (show 0<=now by omega);have hnow:=KL (show 0<=(N:Int)/\(N:Int)<=1099511627776 by omega);have hN2:N<=2199023255552:=by omega
  obtain ⟨V0,hV0,r1,r2⟩:=R.out;have R2:=KL r2;obtain ⟨a',cp',e',l1,m1,_,q1⟩:=aO (f:=fun x:Value=>[x]) undef r1;rw [hV0,HL.out] at e' l1;injection e' with e1 _ e3;subst e1;subst e3;have HV0:=KL hV0;obtain ⟨b0,o0,rfl,hb0,q2⟩:=q1 (by intro h;rw [h,HL.out] at hV0;simp at hV0);have Q:=KL q2;clear r1 r2 q1 q2 hV0 m1;go_loopw [6,34] (fun m i wr=>∃ k:Nat,k<=25/\i=.int .i64 k/\m=.int .i64 (((LL.take k).flatten.length:Nat):Int)/\(LL.take k).flatten.length<=k*8796093021952/\(∀ i,i<k->KE (N:Int) i (LL.getD i []))/\Ky w wr (N:Int) (.slice (some ⟨b0,o0,none⟩) 25 cp) (LL.take k) (LL.take k).flatten) (fun _ i _=>25 - (intOf i).toNat)
  case atStart=>
   refine ⟨0,La _,rfl,rfl,by simp,fun i hi=>by omega,Zb,Zs,by go_simp,by go_simp,by simpa [gR] using ui (((w.alloc _).alloc _)),_,[],(KQ _ _ _ (by simp)).trans (aB _ (by simp)),uk _ _⟩
  case round=>
   obtain ⟨k,hk,rfl,hrel⟩:=hrel;obtain ⟨Z,hZ⟩:∃ Z,Z=LL.take k:=⟨_,rfl⟩;have HZ:=KL hZ
   have hZl:Z.length<=25:=by rw [hZ,Ls];omega
   rw [<- hZ] at hrel;obtain ⟨rfl,htot,hgood,hb,hz,c0,c1,hseen,vl,V,hwk,hown⟩:=hrel;clear hZ;have HB:=KL hb;have HG:=KL hgood;have HSn:=KL hseen;have HWk:=KL hwk;have HO:=KL hown;obtain ⟨T,hT⟩:∃ T,T=Z.flatten:=⟨_,rfl⟩;rw [<- hT] at HSn htot ⊢;have HT:=KL hT;clear hb hgood hseen hwk hown hT;rcases (show k<25\/k=25 by omega) with hlt|rfl
   ·have hlt':(k:Int)<25:=by omega
    have p0:(0:Int)<=(k:Int):=by omega
    have hkl:k<LL.length:=by rw [HL.out];exact hlt
    have a0:=ah HB.out (Q.out k 0 (by rw [HV0.out,HL.out];exact hlt) (by omega)) hb0;simp only [Nat.mul_one,Nat.add_zero] at a0;have hrk:=R2.out k hkl;have hsk:=HS.out k hkl;have HTF:=KL (show (LL.take (k+1)).flatten=T++LL.getD k [] by rw [HT.out,HZ.out];exact ti hkl);have HTL:=KL (show LL.take (k+1)=Z++[LL.getD k []] by rw [HZ.out];exact Iv hkl);obtain ⟨L,hL⟩:∃ L,L=LL.getD k []:=⟨_,rfl⟩;obtain ⟨vk,hvk⟩:∃ vk,vk=V0.getD k undef:=⟨_,rfl⟩;rw [<- hL] at hrk hsk HTF HTL;rw [<- hvk] at hrk a0;have HLk:=KL hL;obtain ⟨ak,ck,rfl,lk1,mk1,_,pk⟩:=aO Tm.zero hrk;have RK:=KL hrk;have PK:=KL pk;unfold maxLen at mk1;clear hL hvk hrk pk hkl;go_wp2_with fail;go_loopw [41] (fun i wr=>∃ j:Nat,j<=L.length/\i=.int .i64 j/\(∀ t∈L.take j,dN t (N:Int)/\gh t (N:Int)=k)/\Ky w wr (N:Int) (.slice (some ⟨b0,o0,none⟩) 25 cp) Z (T++L.take j)) (fun i _=>L.length - (intOf i).toNat)
    case atStart=>exact ⟨0,La _,rfl,by simp,HB.out,hz,c0,c1,by simpa using HSn.out,vl,V,HWk.out,HO.out⟩
    case round=>
     clear HB hz c0 c1 HSn HWk HO a0;obtain ⟨j,hj,rfl,hall,hb,hz,c0,c1,hseen,vl,V,hwk,hown⟩:=hrel;have HB:=KL hb;have HA:=KL hall;have HSn:=KL hseen;have HWk:=KL hwk;have HO:=KL hown;clear hall hseen hwk hown;have hz0:w.heap.size<wr.heap.size:=by omega
     rcases (show j<L.length\/j=L.length by omega) with hjl|rfl
     ·have hjl':(j:Int)<(L.length:Int):=by omega
      have p1:(0:Int)<=(j:Int):=by omega
      obtain ⟨b1,o1,rfl,hb1,qk⟩:=PK.out (by intro h;rw [h] at hjl;simp at hjl);obtain ⟨t,ht⟩:∃ t,t=L.getD j Tm.zero:=⟨_,rfl⟩;have a0:=qk j 0 hjl (by omega);have a1:=qk j 1 hjl (by omega);rw [<- ht] at a0 a1;have HTm:=KL (qH ht hjl);have HTk:=KL (uy ht hjl);obtain ⟨t0,t1⟩:=t;simp only [Tm.cells,Lb,Lc,Nat.add_zero] at a0 a1;have a0:=ah hb a0 hb1;have a1:=ah hb a1 hb1;clear ht qk hb;by_cases hm:dN ⟨t0,t1⟩ (N:Int)
      ·obtain ⟨g1,g2,g3,g4,g5⟩:=id hm;simp only at g1 g2 g3 g4 g5;obtain ⟨A,rfl⟩:=Lr (show 0<=t0 by omega);have HPl:=KL (uS (t:=⟨(A:Int),t1⟩) (now:=(N:Int)) rfl rfl);have HM:=KL hm;clear hm;obtain ⟨P,hP⟩:∃ P,P=bK A N:=⟨_,rfl⟩;have HP:=KL hP;have hP2:=fE A N;rw [<- hP] at HPl hP2;clear hP;by_cases hpk:P=k
       ·subst hpk;have hkey:keyOf prog 3 (.int .i64 t1)=some (kI t1):=Go.Maps.keyOf_int_mk underlying3 (by simp [Lit.wf,IntKind.min,IntKind.max,IntKind.signed,IntKind.bits];omega);have HK:=KL hkey;obtain ⟨es,hown,h3,h4,h5,h6⟩:=HSn.out;have HOm:=KL hown;have HE:=KL (And.intro h3 (And.intro h4 (And.intro h5 h6)))
        have hlen:(gR (T++L.take j)).length<maxLen:=by unfold maxLen;simp [gR];omega
        have HLn:=KL hlen;clear hkey hown h3 h4 h5 h6 hlen;go_wp2_with (first|(go_at_call 130;refine (jp ⟨(A:Int),t1⟩ (N:Int) _ hnow.out.1 hnow.out.2 true (Or.inl ⟨HM.out,rfl⟩)).mono ?_;rintro e w1 ⟨rfl,hb1⟩;obtain ⟨hc1,hf1⟩:=aX hb1;have hz1:wr.heap.size<w1.heap.size:=(by have:=hb1.size;simp at this;omega))|(go_at_call 131;refine (mq A N _ (by omega) hN2).mono ?_;rw [<- HP.out];rintro e w2 ⟨rfl,hb2⟩;obtain ⟨hc2,hf2⟩:=aX hb2)|(at_mapUpdate;go_loud (refine wpList_mapUpdate_own _ rfl _ _ _ 228 rfl 3 230 Bo underlying228 tr (w.heap.size+1+1) (gR (T++L.take j)).length (DataW.map es) rfl (kK (kK (kK HOm.out ((KM _ _).alloc (KY _) _)) hb1) hb2) HLn.out _ _ (kI t1) rfl rfl HK.out .nil [] rfl ?_)));intro w3 hown3 hg3;have s1:=hb1.size;have s2:=hb2.size;have s3:=xJ hg3;simp at s1;have hB2:Below wr.heap.size wr w2:=(((KM wr.heap.size wr).alloc (KY _) _).trans (hb1.mono (by simp))).trans (hb2.mono (by omega))
        have S3:Hid (pZ w3 (w.heap.size+1+1) (gR (T++L.take (j+1)))):=by
         have:=HE.out;show pZ w3 (w.heap.size+1+1) (gR (T++L.take (j+1)))
         rw [HTk.out,<- List.append_assoc,Ed];exact yQ this.1 this.2.1 this.2.2.1 this.2.2.2 hown3
        have hB3:Hid (Below w.heap.size w w3):=tJ (HB.out.trans (hB2.mono HB.out.size)) hg3 (by omega) (by omega);have keep:∀ b,b<wr.heap.size->b≠w.heap.size+1+1->w3.heap[b]?=wr.heap[b]?:=fun b h1 h2=>(hg3.block b (by omega) (by simpa using h2)).trans (hB2.block b h1);have c0':Hid (w3.cell? ⟨w.heap.size,0,none⟩=some (.int .i64 (N:Int))):=(Lg (w:=wr) (w':=w3) (a:=⟨w.heap.size,0,none⟩) (keep w.heap.size hz0 (by omega))).trans c0;have c1':Hid (w3.cell? ⟨w.heap.size,1,none⟩=some (.slice (some ⟨b0,o0,none⟩) 25 cp)):=(Lg (w:=wr) (w':=w3) (a:=⟨w.heap.size,1,none⟩) (keep w.heap.size hz0 (by omega))).trans c1;have HWk3:=KL ((keep (w.heap.size+1) (by omega) (by omega)).trans HWk.out);have HO3:=KL (ee HO.out (fun b h1 h2=>keep b h2 (by omega)));have hz3:w.heap.size+1+1<w3.heap.size:=by omega
        clear hown3 hg3 HOm HE hc1 hf1 hb1 hc2 hf2 hb2 HSn keep hB2 HB c0 c1 HWk HO;go_wp2;go_roundw
        case measure=>simp [intOf];omega
        case rel=>
         refine ⟨j+1,by omega,by go_num,fun t ht=>?_,hB3.out,hz3,c0'.out,c1'.out,S3.out,vl,V,HWk3.out,HO3.out⟩;rw [HTk.out,List.mem_append,List.mem_singleton] at ht;rcases ht with ht|rfl
         ·exact HA.out t ht
         ·exact ⟨HM.out,HPl.out⟩
       ·have HN:=KL (DY (now:=(N:Int)) (LL:=LL) hlt (by rw [<- HLk.out];exact HTm.out) (Or.inr (by rw [HPl.out];exact hpk)))
        have q1:((P:Int) != (k:Int))=true:=by rw [bne_iff_ne];omega
        have q2:¬ (P:Int)=(k:Int):=by omega
        clear hpk;go_wp2_with (first|(go_at_call 130;refine (jp ⟨(A:Int),t1⟩ (N:Int) _ hnow.out.1 hnow.out.2 true (Or.inl ⟨HM.out,rfl⟩)).mono ?_;rintro e w1 ⟨rfl,hb1⟩;obtain ⟨hc1,hf1⟩:=aX hb1;have hz1:wr.heap.size<w1.heap.size:=(by have:=hb1.size;simp at this;omega))|(go_at_call 131;refine (mq A N _ (by omega) hN2).mono ?_;rw [<- HP.out];rintro e w2 ⟨rfl,hb2⟩;obtain ⟨hc2,hf2⟩:=aX hb2))
        all_goals (go_ret2;exact WhOpPost.no HN.out (((HB.out.alloc (by have:=HB.out.size;omega) _).trans (hb1.mono (by simp;have:=HB.out.size;omega))).trans (hb2.mono (by have:=hb1.size;simp at this;have:=HB.out.size;omega))))
      ·have HN:=KL (DY (now:=(N:Int)) (LL:=LL) hlt (by rw [<- HLk.out];exact HTm.out) (Or.inl hm));have HM:=KL hm;clear hm;go_wp2_with (go_at_call 130;refine (jp ⟨t0,t1⟩ (N:Int) _ hnow.out.1 hnow.out.2 false (Or.inr ⟨HM.out,rfl⟩)).mono ?_;rintro e w1 ⟨rfl,hb1⟩;obtain ⟨hc1,hf1⟩:=aX hb1;have hz1:wr.heap.size<w1.heap.size:=(by have:=hb1.size;simp at this;omega))
       all_goals (go_ret2;exact WhOpPost.no HN.out ((HB.out.alloc (by have:=HB.out.size;omega) _).trans (hb1.mono (by simp;have:=HB.out.size;omega))))
     ·have hge:¬ ((L.length:Nat):Int)<(L.length:Int):=by omega
      have hAL:=KL (show ∀ t∈L,dN t (N:Int)/\gh t (N:Int)=k by have:=HA.out;rwa [Lo (KY _)] at this);have HS2:=KL (show pZ wr (w.heap.size+1+1) (gR (T++L)) by have:=HSn.out;rwa [Lo (KY _)] at this);clear HA HSn;by_cases hso:j4 L
      ·have HOr:=KL hso;clear hso;go_wp2_with (go_at_call 132;refine (FH _ L _ (aq RK.out HB.out) (by omega) true (Or.inl ⟨HOr.out,rfl⟩)).mono ?_;rintro e w1 ⟨rfl,hb1⟩;obtain ⟨hc1,hf1⟩:=aX hb1);have hz1:=hb1.size;have HB1:=KL (HB.out.trans (hb1.mono HB.out.size));have HO1:=KL (cB HO.out hb1);have HWk1:=KL ((hb1.block (w.heap.size+1) (by omega)).trans HWk.out);have x1:w1.cell? ⟨w.heap.size+1,1,none⟩=some vl:=ae HWk1.out 1;have x2:w1.frozen? ⟨w.heap.size+1,1,none⟩=false:=az HWk1.out 1;have c0:=ah hb1 c0 hz0;have c1:=ah hb1 c1 hz0;have HS3:=KL (oS HS2.out (hb1.block (w.heap.size+1+1) hz));have RK1:=KL (aq RK.out HB1.out);obtain ⟨av,cv,rfl,_⟩:=aE HO1.out.2.1;clear hb1 hc1 hf1 HB HO HWk HS2;go_wp2_with fail;refine Zr (fun _=>True) (fun hHeld=>?_) (by (try dsimp only);all_goals exact trivial);refine eY 0 ?_;refine Zt 4 ?_;refine Zt 6 ?_;refine Z2 5 7 (fun K hK=>?_) (fun K hK=>?_);(focus (go_simp;refine Zk hK (hS:=by (try dsimp only);all_goals exact trivial) fun hHeld=>?_;clear hK K;refine Z1 7 (fun K hK=>?_);go_simp;(go_at_call 60;refine (vA _ L _ (dH RK1.out 1) hsk).mono ?_;rintro e w2 ⟨x,rfl,hownx,hb2⟩;have hbD:Below w1.heap.size w1 w2:=((aM (n:=1) (KM w1.heap.size w1)).trans (hb2.mono (by simp)));have y1:=aC hbD x1;have y0:=bV y1;have y2:w2.frozen? ⟨w.heap.size+1,1,none⟩=false:=(hbD.frozen (p:=⟨w.heap.size+1,1,none⟩) (bV x1)).trans x2;have HO2:=KL (cB HO1.out hbD);have HX:=KL hownx;have HBD:=KL hbD;have hz2:=hbD.size;obtain ⟨ax,cx,rfl,_⟩:=aE hownx;clear hb2 hbD hownx);(try go_wp2_with fail);refine Zk hK (hS:=by (try dsimp only);all_goals exact trivial) fun hHeld=>?_;clear hK K;refine Z1 8 (fun K hK=>?_);go_simp;refine Zk hK (hS:=by (try dsimp only);all_goals exact trivial) fun hHeld=>?_;clear hK K));rotate_left 1;(focus (go_simp;(go_at_call 60;refine (vA _ L _ (dH RK1.out 1) hsk).mono ?_;rintro e w2 ⟨x,rfl,hownx,hb2⟩;have hbD:Below w1.heap.size w1 w2:=((aM (n:=1) (KM w1.heap.size w1)).trans (hb2.mono (by simp)));have y1:=aC hbD x1;have y0:=bV y1;have y2:w2.frozen? ⟨w.heap.size+1,1,none⟩=false:=(hbD.frozen (p:=⟨w.heap.size+1,1,none⟩) (bV x1)).trans x2;have HO2:=KL (cB HO1.out hbD);have HX:=KL hownx;have HBD:=KL hbD;have hz2:=hbD.size;obtain ⟨ax,cx,rfl,_⟩:=aE hownx;clear hb2 hbD hownx);(try go_wp2_with fail);refine Zk hK (hS:=by (try dsimp only);all_goals exact trivial) fun hHeld=>?_;clear hK K;refine Z2 5 8 (fun K hK=>?_) (fun K hK=>?_);(focus (go_simp;refine Zk hK (hS:=by (try dsimp only);all_goals exact trivial) fun hHeld=>?_;clear hK K;refine Z1 8 (fun K hK=>?_);go_simp;refine Zk hK (hS:=by (try dsimp only);all_goals exact trivial) fun hHeld=>?_;clear hK K));rotate_left 1;(focus (go_simp;refine Zk hK (hS:=by (try dsimp only);all_goals exact trivial) fun hHeld=>?_;clear hK K;refine Z1 5 (fun K hK=>?_);go_simp;refine Zk hK (hS:=by (try dsimp only);all_goals exact trivial) fun hHeld=>?_;clear hK K));rotate_left 1));rotate_left 2;(all_goals (refine Z1 9 (fun K hK=>?_);rw [if_pos (by rfl)];(refine ur _ _ _ 52 rfl (w.heap.size+1+1+1) 181 i0 (.slice none 0 0) 1 24 underlying52 hi hi0 hi1 hi2 rfl (by decide) _ _ _ (by rfl) (HO2.out.2.1.alloc _) ⟨w2.heap.size,0,none⟩ 1 1 [.slice ax L.length cx] (by rfl) rfl (cell_one_new _ _ _) (by intro u hu;simp at hu;subst hu;rfl) (by unfold maxLen;omega) (by omega) (by simp;omega) ?_;intro v' w3 happ hg3 hat;have hb3:=cP (B:=w.heap.size+1+1+1) ((KM w2.heap.size w2).alloc (KY _) _) (by omega) HO2.out.2.1 hg3;have z1:=ah hb3 y1 (by omega);have z2:w3.frozen? ⟨w.heap.size+1,1,none⟩=false:=(hb3.frozen (p:=⟨w.heap.size+1,1,none⟩) Zs).trans y2;have HA3:=KL happ;have HG3:=KL hg3;have HAt:=KL hat;have HB3:=KL hb3;obtain ⟨a3,c3,rfl,_⟩:=aE happ;clear happ hg3 hat hb3);refine Zk hK (hS:=by (try dsimp only);all_goals exact trivial) fun hHeld=>?_;clear hK K;refine dl 10 ?_;refine Zt 12 ?_;refine Z1 13 (fun K hK=>?_);go_simp;refine Zk hK (hS:=by (try dsimp only);all_goals exact trivial) fun hHeld=>?_;clear hK K));(all_goals refine Zd ?_)
       all_goals (try go_wp2_with fail)
       all_goals
        have hz3:=HB3.out.size
        have HB4:Hid (Below w.heap.size w w3):=(HB1.out.trans (HBD.out.mono (by have:=HB1.out.size;omega))).trans (HB3.out.mono (by omega))
        have kp:∀ b,b<w.heap.size+1+1+1->w3.heap[b]?=w1.heap[b]?:=fun b hb=>(HB3.out.block b hb).trans (HBD.out.block b (by omega))
        have e0:w3.cell? ⟨w.heap.size,0,none⟩=_:=(Lg (w:=w1) (w':=w3) (a:=⟨w.heap.size,0,none⟩) (kp w.heap.size (by omega))).trans c0
        have e1:w3.cell? ⟨w.heap.size,1,none⟩=_:=(Lg (w:=w1) (w':=w3) (a:=⟨w.heap.size,1,none⟩) (kp w.heap.size (by omega))).trans c1
        have e2:=(kp (w.heap.size+1) (by omega)).trans HWk1.out
        have e3:=oS HS3.out (kp (w.heap.size+1+1) (by omega))
        have e4:=Av (L:=L) HO1.out (by omega) HBD.out HX.out ((KM _ _).alloc (KY _) _) HA3.out HG3.out HAt.out
        refine ⟨⟨k+1,by omega,by go_num,by rw [HTF.out,Ll];go_num,by rw [HTF.out,Ll];omega,fun i hi=>?_,HB4.out.setCell (by simp) _,by simp;omega,ma e0 (by simp),ma e1 (by simp),?_,_,V++[.slice ax L.length cx],aR e2 _,?_⟩,by simp [intOf];omega⟩
        ·rcases (show i<k\/i=k by omega) with h|rfl
         ·exact HG.out i h
         ·rw [<- HLk.out];exact ⟨hAL.out,HOr.out⟩
        ·rw [HTF.out];exact oS e3 (KV _ _ _ _ (by simp))
        ·rw [HTL.out];exact ee e4 (fun b h1 h2=>KV _ _ _ _ (by simp;omega))
      ·have HN:=KL (show ¬ WhMay (N:Int) LL from fun hm=>hso (by rw [HLk.out];exact (hm.2.2.2.1 k hlt).2));have HOr:=KL hso;clear hso;go_wp2_with (go_at_call 132;refine (FH _ L _ (aq RK.out HB.out) (by omega) false (Or.inr ⟨HOr.out,rfl⟩)).mono ?_;rintro e w1 ⟨rfl,hb1⟩;obtain ⟨hc1,hf1⟩:=aX hb1)
       all_goals (go_ret2;exact WhOpPost.no HN.out (HB.out.trans (hb1.mono HB.out.size)))
   ·have hge:¬ (25:Int)<25:=by omega
    have hTT:=KL (show T=LL.flatten by rw [HT.out,HZ.out,Lo (by rw [HL.out];omega)]);have hZZ:=KL (show Z=LL by rw [HZ.out,Lo (by rw [HL.out];omega)]);obtain ⟨n,arr,cl,hh,hnn,hle,hnd⟩:=yR HSn.out;have hT1:(gR T).length=T.length:=by simp [gR]
    rw [hT1] at hle hnd;have hrun:=Bi hh 3;subst hnn
    have hwm:WhMay (N:Int) LL↔arr.size=T.length:=by
     rw [hnd];constructor
     ·intro h;rw [hTT.out];exact h.2.2.2.2
     ·intro h;exact ⟨hnow.out.1,hnow.out.2,HL.out,HG.out,by rw [<- hTT.out];exact h⟩
    have HWM:=KL hwm;clear hwm hh hnd hT1;rcases (show arr.size<T.length\/arr.size=T.length by omega) with h|h
    ·have HN:=KL (show ¬ WhMay (N:Int) LL from fun hm=>by have:=HWM.out.1 hm;omega);have h':(arr.size:Int)<(T.length:Int):=by omega
     go_wp2
     all_goals (go_ret2;exact WhOpPost.no HN.out HB.out)
    ·have HY:=KL (HWM.out.2 h);have h':¬ (arr.size:Int)<(T.length:Int):=by omega
     clear h;go_wp2
     all_goals (go_ret2;exact Or.inl ⟨w.heap.size+1,vl,V,rfl,HY.out,by omega,by omega,HWk.out,by rw [<- hZZ.out];exact Aw HO.out (by omega),HB.out⟩)
theorem tm_one (t:Tm):∀ u∈Tm.cells t,u.oneCell'=true:=by intro u h;simp [Tm.cells] at h;rcases h with rfl|rfl<;>rfl
theorem Jn {LL:List (List Tm)} {k j:Nat} (z:k<LL.length) (E:j<=(LL.getD k []).length):(LL.take k).flatten.length+j<=LL.flatten.length:=by
 have h:LL.flatten=(LL.take k).flatten++(LL.getD k []++(LL.drop (k+1)).flatten):=by
  rw [<- List.append_assoc,<- ti z,<- Lv,Lx]
 rw [h,Ll,Ll];omega
theorem fF {w:World} {base e sz n:Nat} {v:Value} {xs:List Value} (h:w.ownsRow base e sz v n xs):(v=.slice none 0 0/\n=0)\/∃ g c,v=.slice (some ⟨g,0,none⟩) n c/\∀ j u,xs[j]?=some u->w.cell? ((⟨g,0,none⟩:Addr).add j)=some u:=by
 exact Q48
end
section
open Go.RowKit Go.Shelf Go.Sort
instance:Inhabited Sp:=⟨Sp.zero⟩
theorem spSWO:SWO (ltOf pY) where
 irrefl x:=by rw [lK,mm];omega
 trans x y z h1 h2:=by rw [lK,qj] at *;omega
 ntrans x y z h1 h2:=by rw [lK,mm] at *;omega
theorem sp_srt (X:List Sp):(X.mergeSort fun x y=>!(ltOf pY) y x)=wQ X:=by
 have e:(fun x y=>!(ltOf pY) y x)=jm:=by funext x y;unfold jm;rw [lK]
 rw [e]
 rfl
theorem Ei (x:Sp):∀ v∈x.cells,v.oneCell'=true:=by
 intro v h;simp [Sp.cells] at h;rcases h with rfl|rfl<;>rfl
def JW (w:World) (B:Nat) (v:Value) (X:List Sp) (e:Ending) (w':World):Prop:=e=.returned (.tuple #[])/\w'.ownsRow B 179 2 v X.length ((wQ X).map Sp.cells).flatten/\Below B w w'/\w.heap.size<=w'.heap.size/\(∀ j,j<w.heap.size->v.ownBlock≠some j->w'.heap[j]?=w.heap[j]?)
theorem Bb (B:Nat) (v:Value) (X:List Sp) (w:World) (hB:B<=w.heap.size) (E:w.ownsRow B 179 2 v X.length (X.map Sp.cells).flatten) (hn:X.length<4611686018427387904) :
  Calls prog 120 #[v,.func (.func 121) #[] #[]] w (JW w B v X):=by
 have a0:(wQ X).length=X.length:=(fq X).length_eq
 rcases E.2 with ⟨rfl,h0⟩|⟨g,Y,a2,rfl,hb,hg,I,J,h3,h4⟩
 ·have hX:X=[]:=List.length_eq_zero_iff.1 h0;subst hX;have h:=AnyF.slices_SortFunc_none Ek none 0 (.func (.func 121) #[] #[]) w
  change Calls prog 120 _ _ _ at h
  refine h.mono ?_;rintro z w' ⟨rfl,rfl⟩;exact ⟨rfl,by rw [show wQ []=[] from by simp [wQ]];exact LJ _ _ _ _,KM _ _,KY _,fun _ _ _=>rfl⟩
 ·have K:=lt_of_block hg;have Z:∀ args w,(callFunc 121 args).run prog w=.ok (.enter 121 args) w:=enters_of func121 (by kernel_rfl) rfl;have h:=AnyQ.slices_SortFunc_total Ek 2 isAgg179 sizeOf179 Sp.cells (fun _=>rfl) Ei pY spSWO 121 #[] g 0 Y X.toArray w Z (fun _ _ _ _ U W=>Bf U W _) (zC (enc:=Sp.cells) (k:=2) (fun _=>rfl) E rfl) K (by simpa using hn) (fun U W I J=>by rw [lK] at I J;exact Ej I J)
  change Calls prog 120 _ _ _ at h
  simp only [List.size_toArray] at h;refine h.mono ?_;rintro z w' ⟨rfl,m,os,rfl⟩;rw [sp_srt];exact ⟨rfl,xA (enc:=Sp.cells) (fun _=>rfl) E a0,pE (KM _ _) hb K,(pE (B:=0) (KM _ _) (La _) K).size,fun j hj a1=>Du hj (fun z=>a1 (by rw [z];rfl))⟩
def JX (w:World) (b n:Nat) (e:Ending) (w':World):Prop:=∃ v,e=.returned v/\w'.ownsRow w.heap.size 179 2 v (4*n) ((dh b n).map Sp.cells).flatten/\Below w.heap.size w w'
theorem zi (b:Nat) (k:Nat):((List.range (k+1)).map (zj b)).map Sp.cells=((List.range k).map (zj b)).map Sp.cells++[(zj b k).cells]:=by rw [List.range_succ];simp
theorem qX (b n:Nat) (w:World) (hb:b<=11) (hn:n<=8):Calls prog 119 #[.int .i64 b,.int .i64 n] w (JX w b n):=by
 obtain ⟨i0,hi,a5,a6,a7⟩:=info_parts kN;go_in;have hm:IntKind.i64.wrap ((n:Int)*4)=(n:Int)*4:=LK _ (by omega);go_wp2;go_loopw [5,11] (fun l Y wr=>∃ z:Nat,z<=4*n/\Y=.int .i64 z/\Below w.heap.size w wr/\wr.ownsRow w.heap.size 179 2 l z (((List.range z).map (zj b)).map Sp.cells).flatten) (fun _ Y _=>4*n - (intOf Y).toNat)
 case atStart=>exact ⟨0,La _,rfl,KM _ _,LJ _ _ _ _⟩
 case round=>
  obtain ⟨z,hk,rfl,U,E⟩:=hrel;obtain ⟨a,a9,rfl,_⟩:=aE E;have HO:=KL E;have J:=KL U;rcases (show z<4*n\/z=4*n by omega) with ab|a4
  ·have ac:(z:Int)<(n:Int)*4:=by omega
   clear E U;go_wp2_with fail;refine (uK b z _ hb (by omega)).mono ?_;rintro e I ⟨rfl,K⟩;have a0:=KL (bF HO.out K);have Z:=KL (J.out.trans (K.mono J.out.size));clear K;have a8:w.heap.size<=I.heap.size:=Z.out.size;go_wp2_with (at_builtin;go_loud (refine wpList_append_own _ rfl _ _ 46 rfl w.heap.size 179 i0 (.agg #[.int .i64 0,.int .i64 0]) 2 16 underlying46 hi a5 a6 a7 rfl (by decide) _ z _ rfl (a0.out.alloc _) ⟨I.heap.size,0,none⟩ 1 1 (Sp.cells ⟨spH b z,b⟩) rfl rfl (fO rfl _ 179) ?c1 ?c2 ?c3 ?c4 ?_))
   case c1=>exact Ei _
   case c2=>unfold maxLen;omega
   case c3=>omega
   case c4=>simp;omega
   intro v' w6 W a1 _;obtain ⟨a',a3,rfl,_⟩:=aE W
   have hN:w6.ownsRow w.heap.size 179 2 (.slice a' (z+1) a3) (z+1) (((List.range (z+1)).map (zj b)).map Sp.cells).flatten:=by
    rw [zi,Lv];simpa [zj] using W
   have HN:=KL hN;have a2:=KL (Z.out.trans (cP (B:=w.heap.size) (((KM I.heap.size I).alloc (KY _) _)) a8 a0.out a1));clear W a1 hN;go_wp2;go_roundw
   case rel=>exact ⟨z+1,by omega,by go_num,a2.out,HN.out⟩
   case measure=>simp [intOf];omega
  ·have aa:¬ (z:Int)<(n:Int)*4:=by omega
   subst a4;clear E U;go_wp2
   all_goals first|(go_ret;exact ⟨_,rfl,HO.out,J.out⟩)|exact Zx
end
section
open Go.RowKit
def cW (L:List Int):Array Value:=(L.map (Value.int .i64)).toArray
theorem dx {L:List Int} (h:L.length=12):(cW L).size=12:=by simp [cW,h]
theorem cz {L:List Int} (h:L.length=12):(prog.info? 262).map (·.size)=some (cW L).size:=by
 rw [dx h]
 kernel_rfl
theorem dX (L:List Int):(cW L).all (·.oneCell')=true:=by simp [cW];intro x _;rfl
theorem iW {L:List Int} {m:Nat} {x:Int} (h:L[m]?=some x):(cW L)[m]?=some (.int .i64 x):=by simp [cW,h]
theorem yL (L:List Int) (m:Nat) (x:Int):(cW L).setIfInBounds m (.int .i64 x)=cW (L.set m x):=by simp [cW,List.map_set]
theorem ue:(#[.int .i64 0,.int .i64 0,.int .i64 0,.int .i64 0,.int .i64 0,.int .i64 0,.int .i64 0,.int .i64 0,.int .i64 0,.int .i64 0,.int .i64 0,.int .i64 0]:Array Value)=cW (List.replicate 12 0):=rfl
theorem DN (X:List Sp):cW (lP X 0)=cW (List.replicate 12 0):=by
 unfold cW;rw [cntK_0]
 rfl
theorem qS {L:List Int} {k:Nat} {x:Int} (I:k<12) (h:L[k]?=some x):∀ W,(Instr.index 262 (.agg (cW L)) (.int .i64 (k:Int))).run prog W=.ok (.int .i64 x) W:=by
 intro W;have z:0<=(k:Int)/\(k:Int)<12:=by omega
 have E:=iW h;simp [Instr.index,run_underlying underlying262,asIntOf,z,I,part,E,go_sem]
theorem sc {w:World} {b o:Nat} {v u:Value} {p:Addr} (h:w.cell? ⟨b,o,none⟩=some v) (z:b≠p.block):(w.setCell p u).cell? ⟨b,o,none⟩=some v:=
 (Lg (w:=w) (w':=w.setCell p u) (a:=⟨b,o,none⟩) (KV _ _ _ _ z)).trans h
theorem rv {w:World} {B sz n:Nat} {t:TypeId} {v:Value} {cs:List Value} {p:Addr} (J:w.ownsRow B t sz v n cs) (hp:p.block<B) (u:Value):(w.setCell p u).ownsRow B t sz v n cs:=by
 obtain ⟨h,K|⟨I,z,E,U,W,Y,Z⟩⟩:=J
 ·exact ⟨h,Or.inl K⟩
 ·exact ⟨h,Or.inr ⟨I,z,E,U,W,(KV _ _ _ _ (by omega)).trans Y,Z⟩⟩
theorem mC {w:World} {base e sz n:Nat} {v:Value} {xs:List Value} (h:w.ownsRow base e sz v n xs):(v=.slice none 0 0/\n=0)\/∃ g c,v=.slice (some ⟨g,0,none⟩) n c/\∀ j u,xs[j]?=some u->w.cell? ((⟨g,0,none⟩:Addr).add j)=some u:=by
 exact Q48
theorem mT {P:Program} {a:Act} {o:Oper} {w:World} (h:TypeId) (x:Operand) (J:o.op=.load h x) (g:Nat) (U:a.eval x=.pointer (some ⟨g,0,none⟩)) (t:TypeId) (cs:Array Value) (fr:Nat×Nat) (d:TypeDesc) (E:w.heap[g]?=some (.cells cs t fr))
  (K:P.underlying h=some d) (z:(match d with|.struct _|.array _ _=>true|_=>false)=true) (I:(P.info? h).map (·.size)=some cs.size):(execOp a.eval o).run P w=.ok (.value (.agg cs)) w:=by
 unfold execOp
 simp only [J,U,Instr.loadAt,Instr.sureAddr,Sem.run_bind,Sem.run_pure,Result.andThen_ok,run_loadVar_row w g t h cs fr d E K z I]
def WgtPost (w:World) (X:List Sp) (e:Ending) (w':World):Prop:=∃ (L:List Int) (b:Bool),L.length=12/\e=.returned (.tuple #[.agg (cW L),.bool b])/\(RgMay X->b=true/\L=fG X 12)/\(¬ RgMay X->b=false)/\Below w.heap.size w w'
theorem WgtPost.no {w w':World} {X:List Sp} {L:List Int} (E:L.length=12) (h:¬ RgMay X) (I:Below w.heap.size w w'):WgtPost w X (.returned (.tuple #[.agg (cW L),.bool false])) w':=⟨L,false,E,rfl,fun z=>absurd z h,fun _=>rfl,I⟩
def JV (w wr:World) (s:Value) (X:List Sp) (k:Nat):Prop:=Below w.heap.size w wr/\w.heap.size+1+1<wr.heap.size/\wr.cell? ⟨w.heap.size,0,none⟩=some s/\wr.heap[w.heap.size+1]?=some (.cells (cW (List.replicate 12 0)) 262 (0,0))/\wr.heap[w.heap.size+1+1]?=some (.cells (cW (lP X k)) 262 (0,0))/\Rg1 (X.take k)
def JU (w wr:World) (s l:Value) (X:List Sp) (k:Nat):Prop:=Below w.heap.size w wr/\w.heap.size+1+1<wr.heap.size/\wr.cell? ⟨w.heap.size,0,none⟩=some s/\wr.heap[w.heap.size+1]?=some (.cells (cW (List.replicate 12 0)) 262 (0,0))/\wr.heap[w.heap.size+1+1]?=some (.cells (cW (fG X k)) 262 (0,0))/\(∀ b,b<k->kr X b % 4=0/\kr X b<=32)/\
 wr.ownsRow (w.heap.size+1+1+1) 179 2 l (dm (gx X) k).length ((dm (gx X) k).map Sp.cells).flatten
theorem jG (v:Value) (X:List Sp) (w:World) (r:aK w 2 v (X.map Sp.cells)) (hn:X.length*16<=140737488351232):Calls prog 113 #[.agg #[v]] w (WgtPost w X):=by
 obtain ⟨i0,hi,aH,aL,aS⟩:=info_parts kN;obtain ⟨a,c,rfl,_,m1,_,p1⟩:=aO Sp.zero r;have R:=KL r;have P1:=KL p1;unfold maxLen at m1;clear r p1;go_in;go_wp2;go_loopw [13] (fun i wr=>∃ k:Nat,k<=X.length/\i=.int .i64 k/\JV w wr (.slice a X.length c) X k) (fun i _=>X.length - (intOf i).toNat)
 case atStart=>
  refine ⟨0,La _,rfl,Zb,by simp,by go_simp,?_,?_,by intro s hs;simp at hs⟩
  ·rw [<- ue];exact (KQ _ _ _ (by simp)).trans (aB _ (by simp))
  ·rw [DN,<- ue];exact aB _ (by simp)
 case round=>
  obtain ⟨k,hk,rfl,hb,hz,W,y1,J,hg⟩:=hrel;have HB:=KL hb;have E:=KL hg;have Y1:=KL y1;have Y2:=KL J;rcases (show k<X.length\/X.length=k by omega) with hlt|a6
  ·have aT:(k:Int)<(X.length:Int):=by omega
   have p0:(0:Int)<=(k:Int):=by omega
   obtain ⟨b1,o1,rfl,hb1,q1⟩:=P1.out (by intro h;rw [h] at hlt;simp at hlt);have a0:=q1 k 0 hlt (by omega);have a1:=q1 k 1 hlt (by omega);obtain ⟨s,hs⟩:∃ s,s=X.getD k Sp.zero:=⟨_,rfl⟩;rw [<- hs] at a0 a1;have HS:=KL hs;obtain ⟨h0,z⟩:=s;simp only [Sp.cells,Lb,Lc,Nat.add_zero] at a0 a1;have a0:=ah hb a0 hb1;have a1:=ah hb a1 hb1;clear hs q1 hb hg y1 J;have U:z<0\/(¬ z<0/\12<=z)\/(0<=z/\¬ z<0/\¬ 12<=z):=by omega
   rcases U with U|U|⟨ak,b8,ba⟩
   ·exact Q25
   ·exact Q25
   ·obtain ⟨z,rfl⟩:=Lr ak;have al:z<12:=by omega
    have e1:wr.cell? ⟨w.heap.size+1+1,z,none⟩=some (.int .i64 (kr (X.take k) z)):=(ae Y2.out z).trans (iW (rY X k al));have e2:wr.frozen? ⟨w.heap.size+1+1,z,none⟩=false:=az Y2.out z;have hL:=rct_le (X.take k) z;have b5:(X.take k).length<=k:=List.length_take_le _ _;have b9:(z:Int)<12:=by omega
    go_wp2;go_roundw
    case rel=>
     refine ⟨k+1,by omega,by go_num,(HB.out.setCell (by simp;omega) _).alloc (by simp;have:=HB.out.size;omega) _,by simp;omega,(by repeat (first|(with_reducible assumption)|(with_reducible refine aI _ ?_)|(with_reducible refine dn _ ?_)|(refine (aW (by omega)).trans ?_))),?_,?_,?_⟩
     ·exact (KQ _ _ _ (by simp;omega)).trans (aY Y1.out (by omega))
     ·refine (KQ _ _ _ (by simp;omega)).trans ((aR Y2.out _).trans ?_);rw [yL,DC HS.out hlt rfl al]
     ·exact Et hlt E.out (by rw [<- HS.out];exact ak) (by rw [<- HS.out];simp only;omega)
    case measure=>simp [intOf];omega
  ·have b6:¬ (k:Int)<(X.length:Int):=by omega
   have aa:Rg1 X:=by have:=E.out;rwa [Lo (by omega)] at this
   have ay:=KL aa;have e0:=GM X a6;rw [e0] at J;have Y2:=KL J;clear hb hg y1 J aa E;have X0:=KL a6;clear a6 e0;go_wp2_with (first|(refine LO rfl 262 (.tmp 4) rfl (w.heap.size+1+1) rfl 262 (cW (fG X 0)) (0,0) _ (id Y2.out) underlying262 rfl (cz (dW X 0)) ?_));go_loopw [7,34] (fun l i b3=>∃ k:Nat,k<=12/\i=.int .i64 k/\JU w b3 (.slice a X.length c) l X k) (fun _ i _=>12 - (intOf i).toNat)
   case atStart=>exact ⟨0,La _,rfl,HB.out,hz,W,Y1.out,Y2.out,by intro I hb;omega,LJ _ _ _ _⟩
   case round=>
    clear HB Y1 Y2 hz W;obtain ⟨k,hk,rfl,hb,hz,W,y1,J,hg,a7⟩:=hrel;have HB:=KL hb;have Y1:=KL y1;have Y2:=KL J;have E:=KL hg;have HO:=KL a7;obtain ⟨a2,c2,rfl,_⟩:=aE a7;clear hb y1 J hg a7;rcases (show k<12\/k=12 by omega) with hlt|rfl
    ·have aT:(k:Int)<12:=by omega
     have ad:=qS hlt (jr X 0 hlt);rw [if_neg (Nat.not_lt_zero k)] at ad;obtain ⟨n,hn⟩:∃ n,n=kr X k:=⟨_,rfl⟩;have HN:=KL hn;rw [<- hn] at ad;clear hn;rcases (show (¬ n % 4=0)\/(n % 4=0/\32<n)\/(n % 4=0/\n<=32) by omega) with h4|⟨h4,h5⟩|⟨h4,h5⟩
     ·have h6:¬ (n:Int) % 4=0:=by omega
      have HN:=KL (xI hlt (by rw [<- HN.out];exact Or.inl h4));exact Q29
     ·have h6:(n:Int) % 4=0:=by omega
      have h7:32<(n:Int):=by omega
      have HN:=KL (xI hlt (by rw [<- HN.out];exact Or.inr h5));exact Q29
     ·obtain ⟨q,rfl⟩:∃ q,n=4*q:=⟨n / 4,by omega⟩;have h6:((4*q:Nat):Int) % 4=0:=by omega
      have h7:¬ 32<((4*q:Nat):Int):=by omega
      have hq:(gx X).getD k 0=q:=by rw [kY X hlt,<- HN.out];omega
      have HQ:=KL hq;have hw:(dm (gx X) k).length<=32*k:=wH E.out (by omega)
      have e1:wr.cell? ⟨w.heap.size+1+1,k,none⟩=some (.int .i64 ((4*q:Nat):Int)):=by
       refine (ae Y2.out k).trans (iW ?_);rw [jr X k hlt,if_neg (by omega),<- HN.out]
      have e2:wr.frozen? ⟨w.heap.size+1+1,k,none⟩=false:=az Y2.out k;clear h4 hq;go_wp2_with fail;refine (qX k q _ (by omega) (by omega)).mono ?_;rintro e w1 ⟨v2,rfl,b2,hb2⟩;have au:=hb2.size;have ar:∀ (p:Addr) (u:Value),(wr.setCell p u).heap.size=wr.heap.size:=fun p u=>by simp
      rw [ar] at au hb2;have Y:=KL ((HB.out.setCell (p:=⟨w.heap.size+1+1,k,none⟩) (by simp;omega) (.int .i64 (q:Int))).trans (hb2.mono HB.out.size));have s1:=ah hb2 (sc W (by show w.heap.size≠w.heap.size+1+1;omega)) (by omega);have Z:=KL (aj hb2 (aY Y1.out (by omega)) (by omega));have a3:=KL (aj hb2 (aR Y2.out _) (by omega));have a4:=KL (bF (rv (p:=⟨w.heap.size+1+1,k,none⟩) HO.out (by show w.heap.size+1+1<_;omega) (.int .i64 (q:Int))) (by rw [ar];exact hb2));clear W Y1 Y2 HO HB hb2;have af:(dh k q).length=4*q:=eN k q
      have hN:∀ (v':Value) (w':World),w'.ownsRow (w.heap.size+1+1+1) 179 2 v' ((dm (gx X) k).length+4*q) (((dm (gx X) k).map Sp.cells).flatten++((dh k q).map Sp.cells).flatten)->w'.ownsRow (w.heap.size+1+1+1) 179 2 v' (dm (gx X) (k+1)).length ((dm (gx X) (k+1)).map Sp.cells).flatten:=by
       intro v' w' h;rw [dL,HQ.out,Ll,af,LG,Lv];exact h
      have HW:=KL hN
      have am:cW ((fG X k).set k (q:Int))=cW (fG X (k+1)):=by rw [CQ X hlt,<- HN.out];congr 2;omega
      rw [yL,am] at a3
      have ab:∀ I,I<k+1->kr X I % 4=0/\kr X I<=32:=by
       intro I hb;rcases (show I<k\/I=k by omega) with h|rfl
       ·exact E.out I h
       ·rw [<- HN.out];omega
      have a9:=KL ab;clear hN am ab E;rcases mC b2 with ⟨rfl,h0⟩|⟨g,c3,rfl,an⟩
      ·go_wp2_with (at_builtin;go_loud (refine wpList_append_own_none rfl _ _ 46 rfl (w.heap.size+1+1+1) 179 i0 2 underlying46 hi _ _ _ rfl a4.out rfl ?_));go_wp2;go_roundw
       case rel=>exact ⟨k+1,by omega,by go_num,Y.out,by omega,s1,Z.out,a3.out,a9.out,HW.out _ _ (by have:=a4.out;have h1:q=0:=(by omega);subst h1;simpa [dh] using this)⟩
       case measure=>simp [intOf];omega
      ·have aw:=KL an;clear an;go_wp2_with (at_builtin;go_loud (refine wpList_append_own _ rfl _ _ 46 rfl (w.heap.size+1+1+1) 179 i0 (.agg #[.int .i64 0,.int .i64 0]) 2 16 underlying46 hi aH aL aS rfl (by decide) _ _ _ rfl a4.out ⟨g,0,none⟩ (4*q) c3 ((dh k q).map Sp.cells).flatten rfl ?c0 aw.out ?c1 ?c2 ?c3 ?c4 ?_))
       case c0=>rw [aP (sz:=2) (iu _),Lh,af]
       case c1=>exact uX _
       case c2=>unfold maxLen;omega
       case c3=>omega
       case c4=>omega
       intro v' w6 a8 ac _;obtain ⟨a',b4,rfl,_⟩:=aE a8;have ax:=KL (HW.out _ _ a8);have hb6:=cP (B:=w.heap.size+1+1+1) (KM w1.heap.size w1) (by omega) a4.out ac;have s6:=ah hb6 s1 (by omega);have Y6:=KL (aj hb6 Z.out (by omega));have Z6:=KL (aj hb6 a3.out (by omega));have av:=KL (Y.out.trans (hb6.mono (by omega)));have bb:=hb6.size;clear a8 ac hb6 a4 Y Z a3 s1 HW;go_wp2;go_roundw
       case rel=>exact ⟨k+1,by omega,by go_num,av.out,by omega,s6,Y6.out,Z6.out,a9.out,ax.out⟩
       case measure=>simp [intOf];omega
    ·have b7:(dm (gx X) 12).length<=384:=wH E.out (by omega)
     obtain ⟨r,hr⟩:∃ r:Bool,(wQ (dm (gx X) 12)=X/\r=true)\/(wQ (dm (gx X) 12)≠X/\r=false):=by
      by_cases h:wQ (dm (gx X) 12)=X
      ·exact ⟨true,Or.inl ⟨h,rfl⟩⟩
      ·exact ⟨false,Or.inr ⟨h,rfl⟩⟩
     have HR:=KL hr;clear hr;go_wp2_with fail;refine (Bb (w.heap.size+1+1+1) _ (dm (gx X) 12) _ (by omega) HO.out (by omega)).mono ?_;rintro e w1 ⟨rfl,ao,hb1,au,_⟩;have Y:=KL (HB.out.trans (hb1.mono (by omega)));have s1:=ah hb1 W (by omega);have Z:=KL (aj hb1 Y1.out (by omega));have a3:=KL (aj hb1 Y2.out (by omega));have ag:(wQ (dm (gx X) 12)).length=(dm (gx X) 12).length:=(fq _).length_eq;have aF:=KL (fS ao (by rw [Lh,ag]) (iu _));have aA:=KL (aq R.out (Y.out));clear ao hb1 HO W Y1 Y2 HB ag;go_wp2_with fail;refine wp_region_noPanic ?_;refine wp_region_held_drew (S:=fun w'=>w'.heap[w.heap.size+1+1]?=some (.cells (cW (fG X 12)) 262 (0,0))/\w'.cell? ⟨w.heap.size,0,none⟩=some (.slice a X.length c)) (by kernel_rfl) ?hb (fun a5=>?_)
     case hb=>exact ⟨a3.out,cq s1⟩
     refine wpAnyH_take (i:=0) (v:=?v0) (by simp only [Le,Lb];exact rfl) (by kernel_rfl) (by kernel_rfl) (by kernel_rfl) (fun _ _ _ h=>h) (Or.inl ⟨by rfl,?y0⟩) (by assumption) ?_
     case y0=>(intro w' hSw;(try dsimp only at hSw);(refine mT 262 (.tmp 4) ?_ (w.heap.size+1+1) ?_ 262 _ (0,0) _ hSw.1 underlying262 rfl (cz (dW X 12)))<;>rfl)
     (try simp only [Act.put,List.setIfInBounds_toArray,List.set_cons_zero,List.set_cons_succ]);refine dl 1 ?_;refine Zt 3 ?_;refine Z1 4 (fun K hK=>?_);go_simp;(go_at_call 98;refine (Bz _ _ _ X _ (dH aF.out 1) (dH aA.out 1) r HR.out).mono ?_;rintro e w2 ⟨rfl,q2,rfl⟩);(try go_wp2_with fail);refine Zk hK (hS:=by exact a5) fun a5=>?_;clear hK K;refine Z1 5 (fun K hK=>?_);rw [if_pos (by rfl)];refine LQ 262 (.tmp 2) (.tmp 60) rfl (w.heap.size+1) (cW (fG X 12)) rfl rfl 262 (cW (List.replicate 12 0)) (aj (n:=w.heap.size+1+1) (aM (KM (w.heap.size+1+1) w1)) Z.out (by omega)) (cz (dW X 12)) (by rw [dx (dW X 12)];rfl) (dX _) ?_;refine Zk hK (hS:=by exact ⟨bD a5.1 (by omega),bG a5.2 (by omega)⟩) fun a5=>?_;clear hK K;refine Zt 6 ?_;refine Zd ?_;go_wp2
     all_goals
      refine LN (v:=.tuple #[.agg (cW (fG X 12)),.bool r]) ?_ rfl ⟨_,r,dW X 12,rfl,?_,?_,?_⟩
      ·exact fe results113 _ _ (w.heap.size+1) 262 (cW (fG X 12)) (0,0) _ _ rfl rfl (bB (aj (n:=w.heap.size+1+1) (aM (KM (w.heap.size+1+1) w1)) Z.out (by omega))) underlying262 rfl (cz (dW X 12))
      ·intro U;rcases HR.out with ⟨_,h⟩|⟨h,_⟩
       ·exact ⟨h,rfl⟩
       ·exact absurd U.2.2.symm h
      ·intro U;rcases HR.out with ⟨h,_⟩|⟨_,h⟩
       ·exact absurd ⟨ay.out,E.out,h.symm⟩ U
       ·exact h
      ·exact aV (aM Y.out) (by omega)
theorem Ad (Y:List Sp) (k:Nat) (s:Sp) (h:k<Y.length):(((Y.map Sp.cells).flatten.set (k*2) (.int .i64 s.hash)).set (k*2+1) (.int .i64 s.backend))=((Y.set k s).map Sp.cells).flatten:=by
 induction Y generalizing k with
 | nil=>simp at h
 | cons y Y ih=>
  cases k with
  | zero=>simp [Sp.cells]
  | succ k=>
   have:=ih k (by simpa using h);simp only [List.map_cons,List.flatten_cons,List.set_cons_succ,Sp.cells,List.cons_append,List.nil_append] at this ⊢;rw [show (k+1)*2=k*2+1+1 by omega,List.set_cons_succ,List.set_cons_succ,List.set_cons_succ,List.set_cons_succ,this]
theorem Dt (A C:List Sp) (p:Sp) {k:Nat} (z:A.length=k):((A++p :: C).map Sp.cells).flatten[k*2]?=some (.int .i64 p.hash)/\((A++p :: C).map Sp.cells).flatten[k*2+1]?=some (.int .i64 p.backend):=by
 have h:(A.map Sp.cells).flatten.length=k*2:=by rw [aP (iu A),Lh,z]
 rw [LG,Lv,List.map_cons,List.flatten_cons];constructor
 ·rw [LU (by omega),h,Nat.sub_self]
  rfl
 ·rw [LU (by omega),h,show k*2+1 - k*2=1 by omega]
  rfl
theorem Dk:(prog.info? 3).map (fun i=>(i.zero,i.size,i.bytes))=some (some (.int .i64 0),1,8):=by kernel_rfl
theorem xD {w:World} {B B' sz n:Nat} {t:TypeId} {v:Value} {cs:List Value} (h:w.ownsRow B t sz v n cs) (hB:B'<=B):w.ownsRow B' t sz v n cs:=by
 exact Q106
def WalkPost (w:World) (L:List Int) (c:Int) (e:Ending) (w':World):Prop:=∃ v,e=.returned (.tuple #[v,.int .i64 c])/\aN w.heap.size w' 1 v (L.map fun x=>[Value.int .i64 x])/\Below w.heap.size w w'
theorem WalkPost.nil {w w':World} {c:Int} (h:Below w.heap.size w w'):WalkPost w [] c (.returned (.tuple #[.slice none 0 0,.int .i64 c])) w':=⟨_,rfl,bH _ _ _,h⟩
theorem WalkPost.own {w w':World} {B n:Nat} {c:Int} {v:Value} {L:List Int} (E:w'.ownsRow B 3 1 v n (L.map (Value.int .i64))) (z:L.length=n) (I:w.heap.size<=B) (J:Below w.heap.size w w'):WalkPost w L c (.returned (.tuple #[v,.int .i64 c])) w':=by
 refine ⟨v,rfl,aJ (aG (e:=3) (L:=L.map fun x=>[Value.int .i64 x]) ?_ ((Lh _).trans z) ?_) I,J⟩
 ·rw [show (L.map fun x=>[Value.int .i64 x]).flatten=L.map (Value.int .i64) from ?_]
  ·exact E
  ·clear E z;exact Q122
 ·exact Q28
theorem jE {LL:List (List Tm)} {k:Nat} (h:k<LL.length):(LL.getD k []).length<=LL.flatten.length:=by
 have:=Jn h (KY _);omega
theorem Aa (X:List Tm) {k:Nat} (h:k<=X.length):(X.map Tm.cells).flatten.take (k*2)=((X.take k).map Tm.cells).flatten:=by
 have e:(X.map Tm.cells).flatten=((X.take k).map Tm.cells).flatten++((X.drop k).map Tm.cells).flatten:=by
  exact Q85
 rw [e];exact List.take_left' (by rw [aP (ir _),Lh,Ls];omega)
theorem Ae (X:List Tm) {k:Nat} (h:k<=X.length):(X.map Tm.cells).flatten.drop (k*2)=((X.drop k).map Tm.cells).flatten:=by
 have e:(X.map Tm.cells).flatten=((X.take k).map Tm.cells).flatten++((X.drop k).map Tm.cells).flatten:=by
  exact Q85
 rw [e];exact List.drop_left' (by rw [aP (ir _),Lh,Ls];omega)
theorem rZ {P:Program} {w:World} (t e ty:TypeId) {U:TypeInfo} (J:Value) (sz g n z m c B:Nat) {cs:List Value} (hu:P.underlying t=some (.slice e)) (hi:P.info? e=some U) (hz:U.zero=some J) (hs:J.cells.size=sz)
  (h1:∀ v∈J.cells.toList,v.oneCell'=true) (E:w.ownsRow B e sz (.slice (some ⟨g,0,none⟩) n z) n cs) (a1:n+m<=z) :
  ∃ h:World,(Builtin.clear_ #[t] ty #[.slice (some ⟨g,n*sz,none⟩) m c]).run P w=.ok (.tuple #[]) h/\(∀ b,b≠g->h.heap[b]?=w.heap[b]?)/\h.heap.size=w.heap.size/\Below B w h/\h.ownsRow B e sz (.slice (some ⟨g,0,none⟩) n z) n cs:=by
 have a0:B<=g:=(E.lt _ rfl).1
 obtain ⟨I,a2⟩:=jW (P:=P) w t e ty U J g (n*sz) m c hu hi hz (by
  intro W hj;rw [hs] at hj;rcases E.2 with ⟨K,_⟩|⟨g',a3,a4,K,Y,hg,hn,hm,a5,ht⟩
  ·cases K
  ·injection K with e1 _ e3;injection e1 with e1;injection e1 with e1;subst e1;subst e3
   have h2:n*sz+W<z*sz:=by
    have:(n+m)*sz<=z*sz:=Lt _ a1;rw [Nat.add_mul] at this;omega
   have:=ae hg (n*sz+W)
   rw [this];simp;omega) (fun W=>E.frozenAt _) h1
 have Z:=pz E (KY n) (KY _) I
 rw [Lo (by rw [E.1];exact KY _)] at Z
 exact ⟨_,a2,fun b Y=>pa I _ w b Y,lU I _ w,kB a0 I _ w (KM _ _),Z⟩
theorem lR {P:Program} (w:World) {o:Oper} {a:Act} {h:Act->World->Prop} {Q:Exit->Act->World->Prop} (s x:Operand) (t:TypeId)
  (E:o.op=.call { callee:=.builtin .append,args:=#[s,x],argTypes:=#[t,t] }) (v1 v2 v':Value) (w':World) (J:a.eval s=v1) (K:a.eval x=v2)
  (I:(Builtin.append_ #[t,t] o.type #[v1,v2]).run P w=.ok v' w') (z:h (a.put o.dst v') w'):o.wp P a w h Q:=by
 unfold Oper.wp execOp
 simp only [E,resolve,invoke,builtin,Sem.run_bind,Sem.run_pure,Result.andThen_ok,List.map_toArray,List.map_cons,List.map_nil,J,K,I]
 exact z
def DlPost (B:Nat) (w:World) (v:Value) (X:List Tm) (k:Nat) (e:Ending) (w':World):Prop:=∃ v',e=.returned v'/\v'.ownBlock=v.ownBlock/\w'.ownsRow B 184 2 v' (X.take k++X.drop (k+1)).length ((X.take k++X.drop (k+1)).map Tm.cells).flatten/\w.heap.size<=w'.heap.size/\(∀ b,b<w.heap.size->v.ownBlock≠some b->w'.heap[b]?=w.heap[b]?)/\Below B w w'
theorem delTm (B:Nat) (v:Value) (X:List Tm) (k:Nat) (w:World) (hB:B<=w.heap.size) (U:w.ownsRow B 184 2 v X.length (X.map Tm.cells).flatten) (hk:k<X.length) (hn:X.length<=1048576) :
  Calls prog 92 #[v,.int .i64 (k:Int),.int .i64 ((k:Int)+1)] w (DlPost B w v X k):=by
 obtain ⟨i0,hi,ao,a1,aA⟩:=info_parts xX
 have hz:∀ W,(sizeOf 184).run prog W=.ok 2 W:=fun W=>by simp [sizeOf,typeInfo,hi,a1]
 have J:prog.underlying 181=some (.slice (prog.elem 181)):=by kernel_rfl
 have I:prog.elem 181=184:=by kernel_rfl
 rcases fF U with ⟨_,h0⟩|⟨z,cap,rfl,_⟩
 ·omega
 have am:=uV U
 unfold maxLen at am
 have ay:=U.lt _ rfl
 have k1:(k:Int)<(X.length:Int):=by omega
 have k2:¬ (k:Int)=(k:Int)+1:=by omega
 have k3:((k:Int) == (k:Int)+1)=false:=by rw [beq_eq_false_iff_ne];omega
 have k4:((k:Int)+1).toNat=k+1:=by omega
 have k5:IntKind.i64.wrap ((k:Int)+1)=(k:Int)+1:=by rw [IntKind.wrap_i64];omega
 have aF:∀ W,(Instr.slice 181 (.slice (some ⟨z,0,none⟩) X.length cap) (some (.int .i64 (k:Int))) (some (.int .i64 ((k:Int)+1))) (some (.int .i64 (X.length:Int)))).run prog W=.ok (.slice (some ⟨z,k*2,none⟩) 1 (X.length - k)) W:=fun W=>by
  rw [run_slice_lhm W 181 _ _ _ J .i64 .i64 .i64 _ _ _ (by omega) (by omega) (by omega) (by omega),I,hz];exact Q156
 have aH:∀ W,(Instr.slice 181 (.slice (some ⟨z,0,none⟩) X.length cap) none (some (.int .i64 (k:Int))) none).run prog W=.ok (.slice (some ⟨z,0,none⟩) k cap) W:=fun W=>by
  rw [run_slice_h W 181 _ _ _ J .i64 _ (by omega) (by omega),I,hz];simp [Result.andThen,sliced,Addr.add_lit]
 have a9:∃ Y,(k+1<X.length->Y=⟨z,(k+1)*2,none⟩)/\∀ W,(Instr.slice 181 (.slice (some ⟨z,0,none⟩) X.length cap) (some (.int .i64 ((k:Int)+1))) none none).run prog W=.ok (.slice (some Y) (X.length - (k+1)) (cap - (k+1))) W:=by
  by_cases hc:cap=k+1
  ·refine ⟨⟨z,0,none⟩,fun h=>by omega,fun W=>?_⟩;rw [run_slice_l W 181 _ _ _ J .i64 _ (by omega) (by omega),I,hz];simp [Result.andThen,sliced,hc,k4]
  ·refine ⟨⟨z,(k+1)*2,none⟩,fun _=>rfl,fun W=>?_⟩;rw [run_slice_l W 181 _ _ _ J .i64 _ (by omega) (by omega),I,hz];simp [Result.andThen,sliced,hc,Addr.add_lit,k4]
 obtain ⟨Y,a2,a9⟩:=a9
 have HO:=KL U
 have au:=KL U
 have aa:=KL a2
 clear U a2 J I hz
 go_in
 go_wp2_with fail
 have an:(X.map Tm.cells).flatten.length=X.length*2:=au.out.1
 have HOD:=KL (bF HO.out (aM (n:=1) (KM w.heap.size w)))
 have a4:=l8 HOD.out (i:=k) (by omega)
 obtain ⟨w3,a7,a0,hg3⟩:=run_append_fits (P:=prog) (w:=w.drewN 1) B 181 181 184 i0 2 underlying181 hi a1 z k cap _ a4 Y (X.length - (k+1)) (cap - (k+1)) (((X.drop (k+1)).map Tm.cells).flatten) (by rw [aP (ir _),Lh,List.length_drop]) (by
  intro j u hu
  have ar:k+1<X.length:=by
   exact Q128
  rw [aa.out ar,<- Ae X (by omega)] at *;rw [List.getElem?_drop] at hu
  have hj:(k+1)*2+j<X.length*2:=by
   rcases Nat.lt_or_ge ((k+1)*2+j) (X.length*2) with h|h
   ·exact h
   ·rw [Lu (by omega)] at hu
    cases hu
  rw [Go.WideShapes.add_plain,HOD.out.cellAt _ hj,hu]) (uW _) (by omega)
 have a8:=a7
 rw [show k+(X.length - (k+1))=X.length - 1 by omega] at a0 a8
 rw [Aa X (by omega),<- Lv,<- LG] at a0
 have hb3:Below B w w3:=by
  exact Q90
 have aT:w.heap.size<=w3.heap.size:=hg3.size
 have a3:∀ E,E<w.heap.size->E≠z->w3.heap[E]?=w.heap[E]?:=fun E hb Z=>hg3.block E (by simpa using hb) (by simpa using Z)
 obtain ⟨W2,ax,a5,av,hb2,a6⟩:=rZ (w:=w3) 181 184 0 (.agg #[.int .i64 0,.int .i64 0]) 2 z (X.length - 1) cap 1 (cap - (X.length - 1)) B underlying181 hi ao rfl (by decide) a0 (by omega)
 have ac:=KL hb3
 have ab:=KL hb2
 have ak:=KL a6
 have af:=KL a3
 have ag:=KL a5
 clear hb3 hb2 a6 a3 a5 a0 hg3 a4 an a7
 (refine Zr (fun _=>True) (fun al=>?_) (by (try dsimp only);all_goals exact trivial);refine eY 0 ?_;refine dl 4 ?_;refine Z1 6 (fun K hK=>?_);rw [if_pos (by rfl)];(refine lR _ _ _ 181 rfl _ _ _ _ (by rfl) (by rfl) a8 ?_);refine Zk hK (hS:=by (try dsimp only);all_goals exact trivial) fun al=>?_;clear hK K;refine Zt 7 ?_;refine Zd ?_)
 have aw:((X.length:Int) - 1).toNat=X.length - 1:=by omega
 have aL:∀ W,(Instr.slice 181 (.slice (some ⟨z,0,none⟩) (X.length - 1) cap) (some (.int .i64 ((X.length - 1:Nat):Int))) (some (.int .i64 (X.length:Int))) none).run prog W=.ok (.slice (some ⟨z,(X.length - 1)*2,none⟩) 1 (cap - (X.length - 1))) W:=fun W=>by
  have J:prog.underlying 181=some (.slice (prog.elem 181)):=by kernel_rfl
  have I:prog.elem 181=184:=by kernel_rfl
  rw [run_slice_lh W 181 _ _ _ J .i64 .i64 _ _ (by omega) (by omega) (by omega),I];have hz:(sizeOf 184).run prog W=.ok 2 W:=by simp [sizeOf,typeInfo,hi,a1]
  exact Q113
 go_wp2_with fail
 go_ret
 have aS:=av
 refine ⟨_,rfl,rfl,?_,by omega,fun E hb Z=>(ag.out E (fun e=>Z (by rw [e];rfl))).trans (af.out E hb (fun e=>Z (by rw [e];rfl))),ac.out.trans ab.out⟩
 have hl:(X.take k++X.drop (k+1)).length=X.length - 1:=by rw [Ll,Ls,List.length_drop];omega
 rw [hl];exact ak.out
theorem cQ {α:Type} {V:List α} {a:Nat} {x d:α} (h:a<V.length):(V.set a x).getD a d=x:=by simp [List.getD,h]
theorem cJ {α:Type} {V:List α} {a i:Nat} {x d:α} (h:a≠i):(V.set a x).getD i d=V.getD i d:=by simp [List.getD,h]
theorem iH {B:Nat} {w w':World} {v v':Value} {LL:List (List Tm)} {L':List Tm} {V:List Value} {a g0 c0:Nat} (K:eP B w v LL V) (Y:a<LL.length) (hv:v=.slice (some ⟨g0,0,none⟩) LL.length c0)
  (a3:∀ b,b<w.heap.size->(V.getD a undef).ownBlock≠some b->w'.heap[b]?=w.heap[b]?) (a2:∀ b,v'.ownBlock=some b->(V.getD a undef).ownBlock=some b\/w.heap.size<=b) (a9:w'.ownsRow B 184 2 v' L'.length (L'.map Tm.cells).flatten) :
  eP B (w'.setCell ⟨g0,a,none⟩ v') v (LL.set a L') (V.set a v'):=by
 obtain ⟨h1,h2,h3,W,h5⟩:=K
 have U:v.ownBlock=some g0:=by rw [hv];rfl
 have a7:=h2.lt g0 U
 have Z:a<V.length:=by omega
 have a4:∀ b,v'.ownBlock=some b->b≠g0:=by
  intro b h E;subst E;rcases a2 b h with K|K
  ·exact W a Y b K U
  ·omega
 have a5:∀ z,z<LL.length->z≠a->∀ b,(V.getD z undef).ownBlock=some b->(V.getD a undef).ownBlock≠some b:=by
  intro z J a0 b h I;rcases Nat.lt_or_gt_of_ne a0 with K|K
  ·exact h5 z a K Y b h I
  ·exact h5 a z K J b I h
 have aa:w'.ownsRow B 181 1 v LL.length V:=aZ h2 (fun b h=>by
  have E:b=g0:=by rw [U] at h;injection h with E;exact E.symm
  subst E
  exact a3 b a7.2 (fun I=>W a Y b I U))
 refine ⟨by simp [h1],?_,fun z J=>?_,fun z J b h a1=>?_,fun z j a8 hj b h I=>?_⟩
 ·rw [Lq];subst hv;exact (aa.stored _ _).1
 ·rw [Lq] at J;by_cases hia:z=a
  ·subst hia;rw [cQ Z,cQ Y];exact aZ a9 (fun b h=>KV _ _ _ _ (a4 b h))
  ·rw [cJ (fun E=>hia E.symm),cJ (fun E=>hia E.symm)];refine aZ (h3 z J) (fun b h=>?_);have h6:=(h3 z J).lt b h;rw [KV _ _ _ _ (fun E:b=g0=>W z J b h (by rw [U,E])),a3 b h6.2 (a5 z J hia b h)]
 ·rw [Lq] at J;by_cases hia:z=a
  ·subst hia;rw [cQ Z] at h;rw [U] at a1;injection a1 with E;exact a4 b h E.symm
  ·rw [cJ (fun E=>hia E.symm)] at h;exact W z J b h a1
 ·rw [Lq] at hj
  have a6:∀ z,z<LL.length->z≠a->∀ b,(V.getD z undef).ownBlock=some b->v'.ownBlock≠some b:=by
   intro z J a0 b h I;rcases a2 b I with K|K
   ·exact a5 z J a0 b h K
   ·have:=((h3 z J).lt b h).2;omega
  by_cases hia:z=a
  ·subst hia;rw [cQ Z] at h;rw [cJ (by omega)] at I;exact a6 j hj (by omega) b I h
  ·rw [cJ (fun E=>hia E.symm)] at h;by_cases hja:j=a
   ·subst hja;rw [cQ Z] at I;exact a6 z (by omega) hia b h I
   ·rw [cJ (fun E=>hja E.symm)] at I;exact h5 z j a8 hj b h I
theorem CM {α β:Type} (f:α->β):∀ {L:List α},(L.map f).Nodup->∀ {x y:α},x∈L->y∈L->f x=f y->x=y:=by
 intro L
 induction L with
 | nil=>intro _ x y K;cases K
 | cons a L ih=>
  intro z x y E h I;rw [List.map_cons,List.nodup_cons] at z;rcases List.mem_cons.1 E with rfl|E
  ·rcases List.mem_cons.1 h with rfl|h
   ·rfl
   ·exact absurd (by rw [I];exact List.mem_map_of_mem h) z.1
  ·rcases List.mem_cons.1 h with J|h
   ·exact absurd (by rw [<- J,<- I];exact List.mem_map_of_mem E) z.1
   ·exact ih z.2 E h I
theorem Ii {now:Int} {LL:List (List Tm)} (h:WhMay now LL) {i j:Nat} (J:i<25) (K:j<25) {s t:Tm} (z:s∈LL.getD i []) (E:t∈LL.getD j []) (e:s.id=t.id):i=j/\s=t:=by
 have U:=h.2.2.1;have I:=CM Tm.id h.2.2.2.2 (iT.2 ⟨i,by omega,z⟩) (iT.2 ⟨j,by omega,E⟩) e;subst I;exact ⟨((h.2.2.2.1 i J).1 s z).2.symm.trans ((h.2.2.2.1 j K).1 s E).2,rfl⟩
theorem yr {α:Type} (p q:α->Bool) (L:List α):(L.filter p).filter q=(L.filter q).filter p:=by
 rw [List.filter_filter,List.filter_filter];exact List.filter_congr fun x _=>Bool.and_comm _ _
theorem Ck {LL:List (List Tm)} {a:Nat} (h:a<LL.length) (E:(gR LL.flatten).Nodup):(gR (LL.getD a [])).Nodup:=by
 have z:LL.getD a []=LL[a]:=by simp [List.getD,h]
 rw [z];exact ((List.sublist_flatten_of_mem (Lp h)).map Tm.id).nodup E
theorem Ik {now:Int} {LL:List (List Tm)} (h:WhMay now LL) {a b:Nat} (ha:a<25) (Z:b<(LL.getD a []).length) {id:Int} (I:((LL.getD a []).getD b Tm.zero).id=id) :
  LL.set a ((LL.getD a []).take b++(LL.getD a []).drop (b+1))=bN now (LL.flatten.filter fun t=>!(t.id == id)):=by
 have hl:=h.2.2.1
 obtain ⟨t,K⟩:∃ t,t=(LL.getD a []).getD b Tm.zero:=⟨_,rfl⟩
 have a3:=qH K Z
 rw [<- K] at I
 have a1:LL.getD a []=(LL.getD a []).take b++t :: (LL.getD a []).drop (b+1):=by
  have:t=(LL.getD a [])[b]:=by rw [K,List.getD_eq_getElem?_getD,Lj Z];rfl
  rw [this,List.getElem_cons_drop,Lx]
 have J:=Ck (a:=a) (by omega) h.2.2.2.2
 rw [a1] at J
 simp only [gR,LG,List.map_cons] at J
 rw [List.nodup_append] at J
 have a2:=List.nodup_cons.1 J.2.1
 have a0:(LL.getD a []).filter (fun t=>!(t.id == id))=(LL.getD a []).take b++(LL.getD a []).drop (b+1):=by
  conv=>lhs;rw [a1]
  rw [List.filter_append,List.filter_cons];have e1:(!(t.id == id))=false:=by simp [I]
  rw [e1,if_neg (by simp),List.filter_eq_self.2 ?_,List.filter_eq_self.2 ?_]
  ·intro W U;have:W.id≠t.id:=fun z=>a2.1 (by rw [<- z];exact List.mem_map_of_mem U);simp;rw [<- I];exact this
  ·intro W U;have:W.id≠t.id:=J.2.2 _ (List.mem_map_of_mem U) _ Lw;simp;rw [<- I];exact this
 refine js (by rw [Lq];exact hl) (dd _ _) fun Y E=>?_
 rw [dU _ _ E,yr,kV hl (fun j hj t K=>((h.2.2.2.1 j hj).1 t K).2) E]
 by_cases hia:Y=a
 ·subst hia;rw [cQ (by omega),a0];refine (iq ?_).symm;rw [<- a0];exact (h.2.2.2.1 Y E).2.filter _
 ·rw [cJ (fun z=>hia z.symm),List.filter_eq_self.2 ?_]
  ·exact (iq (h.2.2.2.1 Y E).2).symm
  ·intro W U;have:W.id≠id:=fun z=>hia (Ii h E ha U a3 (by rw [z,I])).1;simpa using this
end
end Go.Proofs.YtennppmadmgfoaaGreatDoor
