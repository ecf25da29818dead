/- Texts of the row's proof. Conditions: none. -/
import Derived.Test.YtocbhafgjepnjaaGreatK14
import Derived.Test.YtocbhafgjepnjaaGreatK23
import Derived.Test.YtocbhafgjepnjaaGreatK24
import Derived.Test.YtocbhafgjepnjaaGreatK25
namespace Go.Proofs.YtocbhafgjepnjaaGreat
set_option maxRecDepth 100000
set_option maxHeartbeats 8000000
section
open Go.RowKit
theorem Q27 {p:Prop} (h:p:=by
 have HN:=Ib (Eh HS.out hlt (by simp only;omega));go_wp2_with (first|(refine t7 rfl 98 (.tmp 4) rfl (w.heap.size+1+1) rfl 98 (cN (kX X k)) (0,0) _ ((If _ _ _ (by omega)).trans Y2.out) Tryz.underlying98 rfl (ci (gP X k)) ?_)|(refine IP rfl 98 (.tmp 2) (.tmp 25) rfl (w.heap.size+1) (cN (kX X k)) rfl rfl 98 (cN (List.replicate 12 0)) ((If _ _ _ (by omega)).trans Y1.out) (ci (gP X k)) (by rw [dn (gP X k)];rfl) (dU _) ?_))
 all_goals
  refine IM (v:=.tuple #[.agg (cN (kX X k)),.bool false]) ?_ rfl (WgtPost.no (gP X k) HN.out ?_)
  ·exact eQ Tryz.results29 _ _ (w.heap.size+1) 98 (cN (kX X k)) (0,0) _ _ rfl rfl (aX ((If _ _ _ (by omega)).trans Y1.out)) Tryz.underlying98 rfl (ci (gP X k))
  ·exact aQ (HB.out.alloc (by omega) _) (by omega)):p:=h
theorem Q30 {p:Prop} (h:p:=by
 clear h4;go_wp2_with (first|(refine t7 rfl 98 (.tmp 4) rfl (w.heap.size+1+1) rfl 98 (cN (fp X k)) (0,0) _ (id Y2.out) Tryz.underlying98 rfl (ci (dS X k)) ?_)|(refine IP rfl 98 (.tmp 2) (.tmp 45) rfl (w.heap.size+1) (cN (fp X k)) rfl rfl 98 (cN (List.replicate 12 0)) (id Y1.out) (ci (dS X k)) (by rw [dn (dS X k)];rfl) (dU _) ?_))
 all_goals (refine IM (v:=.tuple #[.agg (cN (fp X k)),.bool false]) ?_ rfl (WgtPost.no (dS X k) HN.out ?_);(focus (exact eQ Tryz.results29 _ _ (w.heap.size+1) 98 (cN (fp X k)) (0,0) _ _ rfl rfl (aX (id Y1.out)) Tryz.underlying98 rfl (ci (dS X k))));exact aQ (HB.out) (by omega))):p:=h
theorem Q52 {p:Prop} (h:p:=by
 have hl:=h.1;rcases h.2 with ⟨rfl,h0⟩|⟨g,cap,cur,rfl,hg,hh,hnc,hcm,hcs,htake⟩
 ·exact Or.inl ⟨rfl,h0⟩
 ·refine Or.inr ⟨g,cap,rfl,fun j u hu=>?_⟩
  have hj:j<n*sz:=by
   rcases Nat.lt_or_ge j (n*sz) with h'|h'
   ·exact h'
   ·rw [IB (by omega)] at hu
    cases hu
  rw [Go.WideShapes.add_plain,Nat.zero_add,h.cellAt j hj,hu]):p:=h
theorem Q99 {p:Prop} (h:p:=by
 rw [← IC,← IH,IE]):p:=h
theorem Q103 {p:Prop} (h:p:=by
 have:=cG (B:=B) (wr:=w.drewN 1) (Ic _ _) (by simpa using hB) (kJ HOD.out (i:=k) (by omega)) hg3;exact (aI (n:=1) (Ic B w)).trans this):p:=h
theorem Q106 {p:Prop} (h:p:=by
 go_enter Tryz.func118,Tryz.ntmps118;go_wp2
 all_goals (go_ret2;exact WhOpPost.no HN.out Zb)):p:=h
theorem Q130 {p:Prop} (h:p:=by
 rw [hz];simp [Result.andThen,sliced,show ¬ cap=X.length - 1 by omega,Addr.add_lit,show X.length - (X.length - 1)=1 by omega]):p:=h
theorem Q135 {p:Prop} (h:p:=by
 rw [Ir hk,List.filter_append]
 have e:X[k]=s:=by rw [hs];simp [List.getD,hk]
 simp [e,h]):p:=h
theorem Q140 {p:Prop} (h:p:=by
 induction L with
 | nil=>rfl
 | cons x L ih=>simp only [List.map_cons,List.flatten_cons] at ih ⊢;rw [ih];rfl):p:=h
theorem Q146 {p:Prop} (h:p:=by
 rcases Nat.lt_or_ge (k+1) X.length with h|h
 ·exact h
 ·rw [List.drop_of_length_le h] at hu;simp at hu):p:=h
theorem Q175 {p:Prop} (h:p:=by
 simp [Result.andThen,sliced,show ¬ X.length=k by omega,Addr.add_lit,k4]):p:=h
theorem DJ:(Tryz.prog.info? 177).map (fun i=>(i.zero,i.size,i.bytes))=some (some (.slice none 0 0),1,24):=by kernel_rfl
def WhOpPost (w:World) (now:Int) (LL:List (List Tm)) (e:Ending) (w':World):Prop:=
 (∃ q vl V,e=.returned (.tuple #[.pointer (some ⟨q,0,none⟩),.int .i64 0])∧WhMay now LL∧w.heap.size≤q∧q<w'.heap.size∧w'.heap[q]?=some (.cells #[.int .i64 now,vl] 228 (0,0))∧eM (q+1) w' vl LL V∧Below w.heap.size w w')∨
 (e=.returned (.tuple #[.pointer none,.int .i64 6])∧¬ WhMay now LL∧Below w.heap.size w w')
theorem WhOpPost.no {w w':World} {now:Int} {LL:List (List Tm)} (h:¬ WhMay now LL) (hb:Below w.heap.size w w'):WhOpPost w now LL (.returned (.tuple #[.pointer none,.int .i64 6])) w':=Or.inr ⟨rfl,h,hb⟩
def I2 (w wr:World) (now:Int) (lv:Value) (Z:List (List Tm)) (S:List Tm):Prop:=Below w.heap.size w wr∧w.heap.size+1+1<wr.heap.size∧wr.cell? ⟨w.heap.size,0,none⟩=some (.int .i64 now)∧wr.cell? ⟨w.heap.size,1,none⟩=some lv∧
 oM wr (w.heap.size+1+1) (gJ S)∧∃ vl V,wr.heap[w.heap.size+1]?=some (.cells #[.int .i64 now,vl] 228 (0,0))∧eM (w.heap.size+1+1+1) wr vl Z V
theorem lu {w:World} {b o:Nat} {v u:Value} {p:Addr} (h:w.cell? ⟨b,o,none⟩=some v) (hn:b≠p.block):(w.setCell p u).cell? ⟨b,o,none⟩=some v:=
 (Ip (w:=w) (w':=w.setCell p u) (a:=⟨b,o,none⟩) (Ii _ _ _ _ hn)).trans h
theorem rQ {LL:List (List Tm)} {k:Nat} (h:k<LL.length):(LL.take (k+1)).flatten=(LL.take k).flatten++LL.getD k []:=by
 rw [Ir h,IC];simp [List.getD,h]
theorem Fv {LL:List (List Tm)} {k:Nat} (h:k<LL.length):LL.take (k+1)=LL.take k++[LL.getD k []]:=by
 rw [Ir h];simp [List.getD,h]
theorem Cj (A B:List Tm):gJ (A++B)=gJ A++gJ B:=by simp [gJ]
theorem te {L:List Tm} {j:Nat} {t:Tm} (ht:t=L.getD j Tm.zero) (h:j<L.length):L.take (j+1)=L.take j++[t]:=by
 rw [Ir h,ht];simp [List.getD,h]
theorem pv {L:List Tm} {j:Nat} {t:Tm} (ht:t=L.getD j Tm.zero) (h:j<L.length):t∈L:=by
 have e:L.getD j Tm.zero=L[j]:=by simp [List.getD,h]
 rw [ht,e];exact Iw _
theorem C8 {now:Int} {LL:List (List Tm)} {k:Nat} {t:Tm} (hk:k<25) (ht:t∈LL.getD k []) (h:¬ dJ t now∨¬ fV t now=k):¬ WhMay now LL:=fun hm=>by
 have:=(hm.2.2.2.1 k hk).1 t ht;rcases h with h|h
 ·exact h this.1
 ·exact h this.2
theorem tG {t:Tm} {now:Int} {a n:Nat} (h:t.at_=a) (h2:now=n):fV t now=bH a n:=by unfold fV;rw [h,h2];rfl
theorem nj (lv:Value) (now:Int) (LL:List (List Tm)) (w:World) (r:kZ w lv LL) (hn:LL.length*24≤140737488351232) (hs:∀ i,i<LL.length→(LL.getD i []).length*16≤140737488351232) :
  Calls Tryz.prog 118 #[.agg #[.int .i64 now,lv]] w (WhOpPost w now LL):=by
 obtain ⟨i0,hi,hi0,hi1,hi2⟩:=info_parts DJ
 have hmm:=@run_makeMap Tryz.prog
 have R:=Ib r
 obtain ⟨a,cp,rfl⟩:=bI r
 have HS:=Ib hs
 clear r hs
 rcases (show ((now<0))∨((¬ now<0)∧(1099511627776<now))∨((¬ now<0)∧(¬ 1099511627776<now)∧(¬ LL.length=25))∨((¬ now<0)∧(¬ 1099511627776<now)∧(LL.length=25)) by (rcases (show (now<0)∨(¬ now<0) by omega) with hx0|hx0;exact Or.inl hx0;(rcases (show (1099511627776<now)∨(¬ 1099511627776<now) by omega) with hx1|hx1;exact Or.inr (Or.inl ⟨hx0,hx1⟩);(rcases (show (¬ LL.length=25)∨(LL.length=25) by omega) with hx2|hx2;exact Or.inr (Or.inr (Or.inl ⟨hx0,hx1,hx2⟩));exact Or.inr (Or.inr (Or.inr (⟨hx0,hx1,hx2⟩))))))) with hs0|⟨hs0,hs1⟩|⟨hs0,hs1,hs2⟩|⟨hs0,hs1,hs2⟩
 ·have HN:=Ib (show ¬ WhMay now LL from fun h=>by have:=h.1;omega);exact Q106
 ·have HN:=Ib (show ¬ WhMay now LL from fun h=>by have:=h.2.1;omega);exact Q106
 ·have HN:=Ib (show ¬ WhMay now LL from fun h=>by have:=h.2.2.1;omega)
  have h25:((LL.length:Int) != 25)=true:=by rw [bne_iff_ne];omega
  clear hs2;exact Q106
 ·have h25:((LL.length:Int) != 25)=false:=by rw [bne_eq_false_iff_eq];omega
  have HL:=Ib hs2;rw [hs2] at h25 ⊢;clear hs2;go_enter Tryz.func118,Tryz.ntmps118;go_wp2_with fail;obtain ⟨N,rfl⟩:=Iy (show 0≤now by omega);have hnow:=Ib (show 0≤(N:Int)∧(N:Int)≤1099511627776 by omega);have hN2:N≤2199023255552:=by omega
  obtain ⟨V0,hV0,r1,r2⟩:=R.out;have R2:=Ib r2;obtain ⟨a',cp',e',l1,m1,_,q1⟩:=aJ (f:=fun x:Value=>[x]) undef r1;rw [hV0,HL.out] at e' l1;injection e' with e1 _ e3;subst e1;subst e3;have HV0:=Ib hV0;obtain ⟨b0,o0,rfl,hb0,q2⟩:=q1 (by intro h;rw [h,HL.out] at hV0;simp at hV0);have Q:=Ib q2;clear r1 r2 q1 q2 hV0 m1;go_loopw [6,34] (fun m i wr=>∃ k:Nat,k≤25∧i=.int .i64 k∧m=.int .i64 (((LL.take k).flatten.length:Nat):Int)∧(LL.take k).flatten.length≤k*8796093021952∧(∀ i,i<k→I5 (N:Int) i (LL.getD i []))∧I2 w wr (N:Int) (.slice (some ⟨b0,o0,none⟩) 25 cp) (LL.take k) (LL.take k).flatten) (fun _ i _=>25 - (intOf i).toNat)
  case atStart=>
   refine ⟨0,Ik _,rfl,rfl,by simp,fun i hi=>by omega,Zb,Zs,by go_simp,by go_simp,by simpa [gJ] using sM (((w.alloc _).alloc _)),_,[],(If _ _ _ (by simp)).trans (au _ (by simp)),sN _ _⟩
  case round=>
   obtain ⟨k,hk,rfl,hrel⟩:=hrel;obtain ⟨Z,hZ⟩:∃ Z,Z=LL.take k:=⟨_,rfl⟩;have HZ:=Ib hZ
   have hZl:Z.length≤25:=by rw [hZ,Iz];omega
   rw [← hZ] at hrel;obtain ⟨rfl,htot,hgood,hb,hz,c0,c1,hseen,vl,V,hwk,hown⟩:=hrel;clear hZ;have HB:=Ib hb;have HG:=Ib hgood;have HSn:=Ib hseen;have HWk:=Ib hwk;have HO:=Ib hown;obtain ⟨T,hT⟩:∃ T,T=Z.flatten:=⟨_,rfl⟩;rw [← hT] at HSn htot ⊢;have HT:=Ib hT;clear hb hgood hseen hwk hown hT;rcases (show k<25∨k=25 by omega) with hlt|rfl
   ·have hlt':(k:Int)<25:=by omega
    have p0:(0:Int)≤(k:Int):=by omega
    have hkl:k<LL.length:=by rw [HL.out];exact hlt
    have a0:=ae HB.out (Q.out k 0 (by rw [HV0.out,HL.out];exact hlt) (by omega)) hb0;simp only [Nat.mul_one,Nat.add_zero] at a0;have hrk:=R2.out k hkl;have hsk:=HS.out k hkl;have HTF:=Ib (show (LL.take (k+1)).flatten=T++LL.getD k [] by rw [HT.out,HZ.out];exact rQ hkl);have HTL:=Ib (show LL.take (k+1)=Z++[LL.getD k []] by rw [HZ.out];exact Fv hkl);obtain ⟨L,hL⟩:∃ L,L=LL.getD k []:=⟨_,rfl⟩;obtain ⟨vk,hvk⟩:∃ vk,vk=V0.getD k undef:=⟨_,rfl⟩;rw [← hL] at hrk hsk HTF HTL;rw [← hvk] at hrk a0;have HLk:=Ib hL;obtain ⟨ak,ck,rfl,lk1,mk1,_,pk⟩:=aJ Tm.zero hrk;have RK:=Ib hrk;have PK:=Ib pk;unfold maxLen at mk1;clear hL hvk hrk pk hkl;go_wp2_with fail;go_loopw [41] (fun i wr=>∃ j:Nat,j≤L.length∧i=.int .i64 j∧(∀ t∈L.take j,dJ t (N:Int)∧fV t (N:Int)=k)∧I2 w wr (N:Int) (.slice (some ⟨b0,o0,none⟩) 25 cp) Z (T++L.take j)) (fun i _=>L.length - (intOf i).toNat)
    case atStart=>exact ⟨0,Ik _,rfl,by simp,HB.out,hz,c0,c1,by simpa using HSn.out,vl,V,HWk.out,HO.out⟩
    case round=>
     clear HB hz c0 c1 HSn HWk HO a0;obtain ⟨j,hj,rfl,hall,hb,hz,c0,c1,hseen,vl,V,hwk,hown⟩:=hrel;have HB:=Ib hb;have HA:=Ib hall;have HSn:=Ib hseen;have HWk:=Ib hwk;have HO:=Ib hown;clear hall hseen hwk hown;have hz0:w.heap.size<wr.heap.size:=by omega
     rcases (show j<L.length∨j=L.length by omega) with hjl|rfl
     ·have hjl':(j:Int)<(L.length:Int):=by omega
      have p1:(0:Int)≤(j:Int):=by omega
      obtain ⟨b1,o1,rfl,hb1,qk⟩:=PK.out (by intro h;rw [h] at hjl;simp at hjl);obtain ⟨t,ht⟩:∃ t,t=L.getD j Tm.zero:=⟨_,rfl⟩;have a0:=qk j 0 hjl (by omega);have a1:=qk j 1 hjl (by omega);rw [← ht] at a0 a1;have HTm:=Ib (pv ht hjl);have HTk:=Ib (te ht hjl);obtain ⟨t0,t1⟩:=t;simp only [Tm.cells,Il,Im,Nat.add_zero] at a0 a1;have a0:=ae hb a0 hb1;have a1:=ae hb a1 hb1;clear ht qk hb;by_cases hm:dJ ⟨t0,t1⟩ (N:Int)
      ·obtain ⟨g1,g2,g3,g4,g5⟩:=id hm;simp only at g1 g2 g3 g4 g5;obtain ⟨A,rfl⟩:=Iy (show 0≤t0 by omega);have HPl:=Ib (tG (t:=⟨(A:Int),t1⟩) (now:=(N:Int)) rfl rfl);have HM:=Ib hm;clear hm;obtain ⟨P,hP⟩:∃ P,P=bH A N:=⟨_,rfl⟩;have HP:=Ib hP;have hP2:=fj A N;rw [← hP] at HPl hP2;clear hP;by_cases hpk:P=k
       ·subst hpk;have hkey:keyOf Tryz.prog 3 (.int .i64 t1)=some (kI t1):=Go.Maps.keyOf_int_mk Tryz.underlying3 (by simp [Lit.wf,IntKind.min,IntKind.max,IntKind.signed,IntKind.bits];omega);have HK:=Ib hkey;obtain ⟨es,hown,h3,h4,h5,h6⟩:=HSn.out;have HOm:=Ib hown;have HE:=Ib (And.intro h3 (And.intro h4 (And.intro h5 h6)))
        have hlen:(gJ (T++L.take j)).length<maxLen:=by unfold maxLen;simp [gJ];omega
        have HLn:=Ib hlen;clear hkey hown h3 h4 h5 h6 hlen;go_wp2_with (first|(go_at_call 162;refine (jh ⟨(A:Int),t1⟩ (N:Int) _ hnow.out.1 hnow.out.2 true (Or.inl ⟨HM.out,rfl⟩)).mono ?_;rintro e w1 ⟨rfl,hb1⟩;obtain ⟨hc1,hf1⟩:=aV hb1;have hz1:wr.heap.size<w1.heap.size:=(by have:=hb1.size;simp at this;omega))|(go_at_call 163;refine (lL A N _ (by omega) hN2).mono ?_;rw [← HP.out];rintro e w2 ⟨rfl,hb2⟩;obtain ⟨hc2,hf2⟩:=aV hb2)|(at_mapUpdate;go_loud (refine wpList_mapUpdate_own _ rfl _ _ _ 217 rfl 3 219 zC Tryz.underlying217 rT (w.heap.size+1+1) (gJ (T++L.take j)).length (DataW.map es) rfl (kn (kn (kn HOm.out ((Ic _ _).alloc (Ij _) _)) hb1) hb2) HLn.out _ _ (kI t1) rfl rfl HK.out .nil [] rfl ?_)));intro w3 hown3 hg3;have s1:=hb1.size;have s2:=hb2.size;have s3:=vA hg3;simp at s1;have hB2:Below wr.heap.size wr w2:=(((Ic wr.heap.size wr).alloc (Ij _) _).trans (hb1.mono (by simp))).trans (hb2.mono (by omega))
        have S3:Hid (oM w3 (w.heap.size+1+1) (gJ (T++L.take (j+1)))):=by
         have:=HE.out;show oM w3 (w.heap.size+1+1) (gJ (T++L.take (j+1)))
         rw [HTk.out,← List.append_assoc,Cj];exact xd this.1 this.2.1 this.2.2.1 this.2.2.2 hown3
        have hB3:Hid (Below w.heap.size w w3):=sj (HB.out.trans (hB2.mono HB.out.size)) hg3 (by omega) (by omega);have keep:∀ b,b<wr.heap.size→b≠w.heap.size+1+1→w3.heap[b]?=wr.heap[b]?:=fun b h1 h2=>(hg3.block b (by omega) (by simpa using h2)).trans (hB2.block b h1);have c0':Hid (w3.cell? ⟨w.heap.size,0,none⟩=some (.int .i64 (N:Int))):=(Ip (w:=wr) (w':=w3) (a:=⟨w.heap.size,0,none⟩) (keep w.heap.size hz0 (by omega))).trans c0;have c1':Hid (w3.cell? ⟨w.heap.size,1,none⟩=some (.slice (some ⟨b0,o0,none⟩) 25 cp)):=(Ip (w:=wr) (w':=w3) (a:=⟨w.heap.size,1,none⟩) (keep w.heap.size hz0 (by omega))).trans c1;have HWk3:=Ib ((keep (w.heap.size+1) (by omega) (by omega)).trans HWk.out);have HO3:=Ib (ed HO.out (fun b h1 h2=>keep b h2 (by omega)));have hz3:w.heap.size+1+1<w3.heap.size:=by omega
        clear hown3 hg3 HOm HE hc1 hf1 hb1 hc2 hf2 hb2 HSn keep hB2 HB c0 c1 HWk HO;go_wp2;go_roundw
        case measure=>simp [intOf];omega
        case rel=>
         refine ⟨j+1,by omega,by go_num,fun t ht=>?_,hB3.out,hz3,c0'.out,c1'.out,S3.out,vl,V,HWk3.out,HO3.out⟩;rw [HTk.out,List.mem_append,List.mem_singleton] at ht;rcases ht with ht|rfl
         ·exact HA.out t ht
         ·exact ⟨HM.out,HPl.out⟩
       ·have HN:=Ib (C8 (now:=(N:Int)) (LL:=LL) hlt (by rw [← HLk.out];exact HTm.out) (Or.inr (by rw [HPl.out];exact hpk)))
        have q1:((P:Int) != (k:Int))=true:=by rw [bne_iff_ne];omega
        have q2:¬ (P:Int)=(k:Int):=by omega
        clear hpk;go_wp2_with (first|(go_at_call 162;refine (jh ⟨(A:Int),t1⟩ (N:Int) _ hnow.out.1 hnow.out.2 true (Or.inl ⟨HM.out,rfl⟩)).mono ?_;rintro e w1 ⟨rfl,hb1⟩;obtain ⟨hc1,hf1⟩:=aV hb1;have hz1:wr.heap.size<w1.heap.size:=(by have:=hb1.size;simp at this;omega))|(go_at_call 163;refine (lL A N _ (by omega) hN2).mono ?_;rw [← HP.out];rintro e w2 ⟨rfl,hb2⟩;obtain ⟨hc2,hf2⟩:=aV hb2))
        all_goals (go_ret2;exact WhOpPost.no HN.out (((HB.out.alloc (by have:=HB.out.size;omega) _).trans (hb1.mono (by simp;have:=HB.out.size;omega))).trans (hb2.mono (by have:=hb1.size;simp at this;have:=HB.out.size;omega))))
      ·have HN:=Ib (C8 (now:=(N:Int)) (LL:=LL) hlt (by rw [← HLk.out];exact HTm.out) (Or.inl hm));have HM:=Ib hm;clear hm;go_wp2_with (go_at_call 162;refine (jh ⟨t0,t1⟩ (N:Int) _ hnow.out.1 hnow.out.2 false (Or.inr ⟨HM.out,rfl⟩)).mono ?_;rintro e w1 ⟨rfl,hb1⟩;obtain ⟨hc1,hf1⟩:=aV hb1;have hz1:wr.heap.size<w1.heap.size:=(by have:=hb1.size;simp at this;omega))
       all_goals (go_ret2;exact WhOpPost.no HN.out ((HB.out.alloc (by have:=HB.out.size;omega) _).trans (hb1.mono (by simp;have:=HB.out.size;omega))))
     ·have hge:¬ ((L.length:Nat):Int)<(L.length:Int):=by omega
      have hAL:=Ib (show ∀ t∈L,dJ t (N:Int)∧fV t (N:Int)=k by have:=HA.out;rwa [Iv (Ij _)] at this);have HS2:=Ib (show oM wr (w.heap.size+1+1) (gJ (T++L)) by have:=HSn.out;rwa [Iv (Ij _)] at this);clear HA HSn;by_cases hso:iQ L
      ·have HOr:=Ib hso;clear hso;go_wp2_with (go_at_call 164;refine (Dy _ L _ (aq RK.out HB.out) (by omega) true (Or.inl ⟨HOr.out,rfl⟩)).mono ?_;rintro e w1 ⟨rfl,hb1⟩;obtain ⟨hc1,hf1⟩:=aV hb1);have hz1:=hb1.size;have HB1:=Ib (HB.out.trans (hb1.mono HB.out.size));have HO1:=Ib (cj HO.out hb1);have HWk1:=Ib ((hb1.block (w.heap.size+1) (by omega)).trans HWk.out);have x1:w1.cell? ⟨w.heap.size+1,1,none⟩=some vl:=aa HWk1.out 1;have x2:w1.frozen? ⟨w.heap.size+1,1,none⟩=false:=ap HWk1.out 1;have c0:=ae hb1 c0 hz0;have c1:=ae hb1 c1 hz0;have HS3:=Ib (nH HS2.out (hb1.block (w.heap.size+1+1) hz));have RK1:=Ib (aq RK.out HB1.out);obtain ⟨av,cv,rfl,_⟩:=aB HO1.out.2.1;clear hb1 hc1 hf1 HB HO HWk HS2;go_wp2_with fail;refine Zr (fun _=>True) (fun hHeld=>?_) (by (try dsimp only);all_goals exact trivial);refine eP 0 ?_;refine Zt 4 ?_;refine Zt 6 ?_;refine Z2 5 7 (fun K hK=>?_) (fun K hK=>?_);(focus (go_simp;refine Zk hK (hS:=by (try dsimp only);all_goals exact trivial) fun hHeld=>?_;clear hK K;refine Z1 7 (fun K hK=>?_);go_simp;(go_at_call 82;refine (Go.Proofs.YtocbhafgjepnjaaGreat.u7 _ L _ (dB RK1.out 1) hsk).mono ?_;rintro e w2 ⟨x,rfl,hownx,hb2⟩;have hbD:Below w1.heap.size w1 w2:=((aI (n:=1) (Ic w1.heap.size w1)).trans (hb2.mono (by simp)));have y1:=az hbD x1;have y0:=bS y1;have y2:w2.frozen? ⟨w.heap.size+1,1,none⟩=false:=(hbD.frozen (p:=⟨w.heap.size+1,1,none⟩) (bS x1)).trans x2;have HO2:=Ib (cj HO1.out hbD);have HX:=Ib hownx;have HBD:=Ib hbD;have hz2:=hbD.size;obtain ⟨ax,cx,rfl,_⟩:=aB hownx;clear hb2 hbD hownx);(try go_wp2_with fail);refine Zk hK (hS:=by (try dsimp only);all_goals exact trivial) fun hHeld=>?_;clear hK K;refine Z1 8 (fun K hK=>?_);go_simp;refine Zk hK (hS:=by (try dsimp only);all_goals exact trivial) fun hHeld=>?_;clear hK K));rotate_left 1;(focus (go_simp;(go_at_call 82;refine (Go.Proofs.YtocbhafgjepnjaaGreat.u7 _ L _ (dB RK1.out 1) hsk).mono ?_;rintro e w2 ⟨x,rfl,hownx,hb2⟩;have hbD:Below w1.heap.size w1 w2:=((aI (n:=1) (Ic w1.heap.size w1)).trans (hb2.mono (by simp)));have y1:=az hbD x1;have y0:=bS y1;have y2:w2.frozen? ⟨w.heap.size+1,1,none⟩=false:=(hbD.frozen (p:=⟨w.heap.size+1,1,none⟩) (bS x1)).trans x2;have HO2:=Ib (cj HO1.out hbD);have HX:=Ib hownx;have HBD:=Ib hbD;have hz2:=hbD.size;obtain ⟨ax,cx,rfl,_⟩:=aB hownx;clear hb2 hbD hownx);(try go_wp2_with fail);refine Zk hK (hS:=by (try dsimp only);all_goals exact trivial) fun hHeld=>?_;clear hK K;refine Z2 5 8 (fun K hK=>?_) (fun K hK=>?_);(focus (go_simp;refine Zk hK (hS:=by (try dsimp only);all_goals exact trivial) fun hHeld=>?_;clear hK K;refine Z1 8 (fun K hK=>?_);go_simp;refine Zk hK (hS:=by (try dsimp only);all_goals exact trivial) fun hHeld=>?_;clear hK K));rotate_left 1;(focus (go_simp;refine Zk hK (hS:=by (try dsimp only);all_goals exact trivial) fun hHeld=>?_;clear hK K;refine Z1 5 (fun K hK=>?_);go_simp;refine Zk hK (hS:=by (try dsimp only);all_goals exact trivial) fun hHeld=>?_;clear hK K));rotate_left 1));rotate_left 2;(all_goals (refine Z1 9 (fun K hK=>?_);rw [if_pos (by rfl)];(refine sU _ _ _ 50 rfl (w.heap.size+1+1+1) 177 i0 (.slice none 0 0) 1 24 Tryz.underlying50 hi hi0 hi1 hi2 rfl (by decide) _ _ _ (by rfl) (HO2.out.2.1.alloc _) ⟨w2.heap.size,0,none⟩ 1 1 [.slice ax L.length cx] (by rfl) rfl (cell_one_new _ _ _) (by intro u hu;simp at hu;subst hu;rfl) (by unfold maxLen;omega) (by omega) (by simp;omega) ?_;intro v' w3 happ hg3 hat;have hb3:=cG (B:=w.heap.size+1+1+1) ((Ic w2.heap.size w2).alloc (Ij _) _) (by omega) HO2.out.2.1 hg3;have z1:=ae hb3 y1 (by omega);have z2:w3.frozen? ⟨w.heap.size+1,1,none⟩=false:=(hb3.frozen (p:=⟨w.heap.size+1,1,none⟩) Zs).trans y2;have HA3:=Ib happ;have HG3:=Ib hg3;have HAt:=Ib hat;have HB3:=Ib hb3;obtain ⟨a3,c3,rfl,_⟩:=aB happ;clear happ hg3 hat hb3);refine Zk hK (hS:=by (try dsimp only);all_goals exact trivial) fun hHeld=>?_;clear hK K;refine dd 10 ?_;refine Zt 12 ?_;refine Z1 13 (fun K hK=>?_);go_simp;refine Zk hK (hS:=by (try dsimp only);all_goals exact trivial) fun hHeld=>?_;clear hK K));(all_goals refine Zd ?_)
       all_goals (try go_wp2_with fail)
       all_goals
        have hz3:=HB3.out.size
        have HB4:Hid (Below w.heap.size w w3):=(HB1.out.trans (HBD.out.mono (by have:=HB1.out.size;omega))).trans (HB3.out.mono (by omega))
        have kp:∀ b,b<w.heap.size+1+1+1→w3.heap[b]?=w1.heap[b]?:=fun b hb=>(HB3.out.block b hb).trans (HBD.out.block b (by omega))
        have e0:w3.cell? ⟨w.heap.size,0,none⟩=_:=(Ip (w:=w1) (w':=w3) (a:=⟨w.heap.size,0,none⟩) (kp w.heap.size (by omega))).trans c0
        have e1:w3.cell? ⟨w.heap.size,1,none⟩=_:=(Ip (w:=w1) (w':=w3) (a:=⟨w.heap.size,1,none⟩) (kp w.heap.size (by omega))).trans c1
        have e2:=(kp (w.heap.size+1) (by omega)).trans HWk1.out
        have e3:=nH HS3.out (kp (w.heap.size+1+1) (by omega))
        have e4:=yM (L:=L) HO1.out (by omega) HBD.out HX.out ((Ic _ _).alloc (Ij _) _) HA3.out HG3.out HAt.out
        refine ⟨⟨k+1,by omega,by go_num,by rw [HTF.out,It];go_num,by rw [HTF.out,It];omega,fun i hi=>?_,HB4.out.setCell (by simp) _,by simp;omega,lu e0 (by simp),lu e1 (by simp),?_,_,V++[.slice ax L.length cx],aP e2 _,?_⟩,by simp [intOf];omega⟩
        ·rcases (show i<k∨i=k by omega) with h|rfl
         ·exact HG.out i h
         ·rw [← HLk.out];exact ⟨hAL.out,HOr.out⟩
        ·rw [HTF.out];exact nH e3 (Ii _ _ _ _ (by simp))
        ·rw [HTL.out];exact ed e4 (fun b h1 h2=>Ii _ _ _ _ (by simp;omega))
      ·have HN:=Ib (show ¬ WhMay (N:Int) LL from fun hm=>hso (by rw [HLk.out];exact (hm.2.2.2.1 k hlt).2));have HOr:=Ib hso;clear hso;go_wp2_with (go_at_call 164;refine (Dy _ L _ (aq RK.out HB.out) (by omega) false (Or.inr ⟨HOr.out,rfl⟩)).mono ?_;rintro e w1 ⟨rfl,hb1⟩;obtain ⟨hc1,hf1⟩:=aV hb1)
       all_goals (go_ret2;exact WhOpPost.no HN.out (HB.out.trans (hb1.mono HB.out.size)))
   ·have hge:¬ (25:Int)<25:=by omega
    have hTT:=Ib (show T=LL.flatten by rw [HT.out,HZ.out,Iv (by rw [HL.out];omega)]);have hZZ:=Ib (show Z=LL by rw [HZ.out,Iv (by rw [HL.out];omega)]);obtain ⟨n,arr,cl,hh,hnn,hle,hnd⟩:=xe HSn.out;have hT1:(gJ T).length=T.length:=by simp [gJ]
    rw [hT1] at hle hnd;have hrun:=zv hh 3;subst hnn
    have hwm:WhMay (N:Int) LL↔arr.size=T.length:=by
     rw [hnd];constructor
     ·intro h;rw [hTT.out];exact h.2.2.2.2
     ·intro h;exact ⟨hnow.out.1,hnow.out.2,HL.out,HG.out,by rw [← hTT.out];exact h⟩
    have HWM:=Ib hwm;clear hwm hh hnd hT1;rcases (show arr.size<T.length∨arr.size=T.length by omega) with h|h
    ·have HN:=Ib (show ¬ WhMay (N:Int) LL from fun hm=>by have:=HWM.out.1 hm;omega);have h':(arr.size:Int)<(T.length:Int):=by omega
     go_wp2
     all_goals (go_ret2;exact WhOpPost.no HN.out HB.out)
    ·have HY:=Ib (HWM.out.2 h);have h':¬ (arr.size:Int)<(T.length:Int):=by omega
     clear h;go_wp2
     all_goals (go_ret2;exact Or.inl ⟨w.heap.size+1,vl,V,rfl,HY.out,by omega,by omega,HWk.out,by rw [← hZZ.out];exact yN HO.out (by omega),HB.out⟩)
theorem tm_one (t:Tm):∀ u∈Tm.cells t,u.oneCell'=true:=by intro u hu;simp [Tm.cells] at hu;rcases hu with rfl|rfl<;>rfl
theorem Gv {LL:List (List Tm)} {k j:Nat} (hk:k<LL.length) (hj:j≤(LL.getD k []).length):(LL.take k).flatten.length+j≤LL.flatten.length:=by
 have h:LL.flatten=(LL.take k).flatten++(LL.getD k []++(LL.drop (k+1)).flatten):=by
  rw [← List.append_assoc,← rQ hk,← IC,IE]
 rw [h,It,It];omega
theorem fo {w:World} {base e sz n:Nat} {v:Value} {xs:List Value} (h:w.ownsRow base e sz v n xs):(v=.slice none 0 0∧n=0)∨∃ g c,v=.slice (some ⟨g,0,none⟩) n c∧∀ j u,xs[j]?=some u→w.cell? ((⟨g,0,none⟩:Addr).add j)=some u:=by
 exact Q52
end
section
open Go.RowKit Go.Shelf Go.Sort
instance:Inhabited Sp:=⟨Sp.zero⟩
theorem spSWO:SWO (ltOf oK) where
 irrefl x:=by rw [kU,lI];omega
 trans x y z h1 h2:=by rw [kU,oS] at *;omega
 ntrans x y z h1 h2:=by rw [kU,lI] at *;omega
theorem sp_srt (X:List Sp):(X.mergeSort fun x y=>!(ltOf oK) y x)=uL X:=by
 have e:(fun x y=>!(ltOf oK) y x)=je:=by funext x y;unfold je;rw [kU]
 rw [e]
 rfl
theorem Cs (x:Sp):∀ v∈x.cells,v.oneCell'=true:=by
 intro v hv;simp [Sp.cells] at hv;rcases hv with rfl|rfl<;>rfl
def Hb (w:World) (B:Nat) (v:Value) (X:List Sp) (e:Ending) (w':World):Prop:=e=.returned (.tuple #[])∧w'.ownsRow B 106 2 v X.length ((uL X).map Sp.cells).flatten∧Below B w w'∧w.heap.size≤w'.heap.size∧(∀ j,j<w.heap.size→v.ownBlock≠some j→w'.heap[j]?=w.heap[j]?)
theorem zm (B:Nat) (v:Value) (X:List Sp) (w:World) (hB:B≤w.heap.size) (h:w.ownsRow B 106 2 v X.length (X.map Sp.cells).flatten) (hn:X.length<4611686018427387904) :
  Calls Tryz.prog 55 #[v,.func (.func 56) #[] #[]] w (Hb w B v X):=by
 have hlen:(uL X).length=X.length:=(eZ X).length_eq
 rcases h.2 with ⟨rfl,h0⟩|⟨g,cap,cur,rfl,hb,hg,h1,h2,h3,h4⟩
 ·have hX:X=[]:=List.length_eq_zero_iff.1 h0;subst hX;have hc:=AnyF.slices_SortFunc_none Cu none 0 (.func (.func 56) #[] #[]) w
  change Calls Tryz.prog 55 _ _ _ at hc
  refine hc.mono ?_;rintro e w' ⟨rfl,rfl⟩;exact ⟨rfl,by rw [show uL []=[] from by simp [uL]];exact IK _ _ _ _,Ic _ _,Ij _,fun _ _ _=>rfl⟩
 ·have hlt:=lt_of_block hg;have eg:∀ args w,(callFunc 56 args).run Tryz.prog w=.ok (.enter 56 args) w:=enters_of Tryz.func56 (by kernel_rfl) rfl;have hc:=AnyQ.slices_SortFunc_total Cu 2 Tryz.isAgg106 Tryz.sizeOf106 Sp.cells (fun _=>rfl) Cs oK spSWO 56 #[] g 0 cap X.toArray w eg (fun _ _ _ _ x y=>zq x y _) (xU (enc:=Sp.cells) (k:=2) (fun _=>rfl) h rfl) hlt (by simpa using hn) (fun x y h1 h2=>by rw [kU] at h1 h2;exact Ct h1 h2)
  change Calls Tryz.prog 55 _ _ _ at hc
  simp only [List.size_toArray] at hc;refine hc.mono ?_;rintro e w' ⟨rfl,m,os,rfl⟩;rw [sp_srt];exact ⟨rfl,vm (enc:=Sp.cells) (fun _=>rfl) h hlen,o9 (Ic _ _) hb hlt,(o9 (B:=0) (Ic _ _) (Ik _) hlt).size,fun j hj hne=>Bu hj (fun e=>hne (by rw [e];rfl))⟩
def Hc (w:World) (b n:Nat) (e:Ending) (w':World):Prop:=∃ v,e=.returned v∧w'.ownsRow w.heap.size 106 2 v (4*n) ((cV b n).map Sp.cells).flatten∧Below w.heap.size w w'
theorem xE (b:Nat) (k:Nat):((List.range (k+1)).map (xF b)).map Sp.cells=((List.range k).map (xF b)).map Sp.cells++[(xF b k).cells]:=by rw [List.range_succ];simp
theorem pQ (b n:Nat) (w:World) (hb:b≤11) (hn:n≤8):Calls Tryz.prog 54 #[.int .i64 b,.int .i64 n] w (Hc w b n):=by
 obtain ⟨i0,hi,hi0,hi1,hi2⟩:=info_parts kr;go_enter Tryz.func54,Tryz.ntmps54;have hm:IntKind.i64.wrap ((n:Int)*4)=(n:Int)*4:=IL _ (by omega);go_wp2;go_loopw [5,11] (fun l i wr=>∃ k:Nat,k≤4*n∧i=.int .i64 k∧Below w.heap.size w wr∧wr.ownsRow w.heap.size 106 2 l k (((List.range k).map (xF b)).map Sp.cells).flatten) (fun _ i _=>4*n - (intOf i).toNat)
 case atStart=>exact ⟨0,Ik _,rfl,Ic _ _,IK _ _ _ _⟩
 case round=>
  obtain ⟨k,hk,rfl,hbel,hown⟩:=hrel;obtain ⟨a,cap,rfl,_⟩:=aB hown;have HO:=Ib hown;have HB:=Ib hbel;rcases (show k<4*n∨k=4*n by omega) with hlt|heq
  ·have hlt':(k:Int)<(n:Int)*4:=by omega
   clear hown hbel;go_wp2_with fail;refine (tx b k _ hb (by omega)).mono ?_;rintro e w1 ⟨rfl,hb1⟩;have HO1:=Ib (bA HO.out hb1);have HB1:=Ib (HB.out.trans (hb1.mono HB.out.size));clear hb1;have hsz:w.heap.size≤w1.heap.size:=HB1.out.size;go_wp2_with (at_builtin;go_loud (refine wpList_append_own _ rfl _ _ 44 rfl w.heap.size 106 i0 (.agg #[.int .i64 0,.int .i64 0]) 2 16 Tryz.underlying44 hi hi0 hi1 hi2 rfl (by decide) _ k _ rfl (HO1.out.alloc _) ⟨w1.heap.size,0,none⟩ 1 1 (Sp.cells ⟨spH b k,b⟩) rfl rfl (fC rfl _ 106) ?c1 ?c2 ?c3 ?c4 ?_))
   case c1=>exact Cs _
   case c2=>unfold maxLen;omega
   case c3=>omega
   case c4=>simp;omega
   intro v' w6 hown' hgrow _;obtain ⟨a',cap',rfl,_⟩:=aB hown'
   have hN:w6.ownsRow w.heap.size 106 2 (.slice a' (k+1) cap') (k+1) (((List.range (k+1)).map (xF b)).map Sp.cells).flatten:=by
    rw [xE,IC];simpa [xF] using hown'
   have HN:=Ib hN;have HB6:=Ib (HB1.out.trans (cG (B:=w.heap.size) (((Ic w1.heap.size w1).alloc (Ij _) _)) hsz HO1.out hgrow));clear hown' hgrow hN;go_wp2;go_roundw
   case rel=>exact ⟨k+1,by omega,by go_num,HB6.out,HN.out⟩
   case measure=>simp [intOf];omega
  ·have hge:¬ (k:Int)<(n:Int)*4:=by omega
   subst heq;clear hown hbel;go_wp2
   all_goals first|(go_ret;exact ⟨_,rfl,HO.out,HB.out⟩)|exact Zx
end
section
open Go.RowKit
def cN (L:List Int):Array Value:=(L.map (Value.int .i64)).toArray
theorem dn {L:List Int} (h:L.length=12):(cN L).size=12:=by simp [cN,h]
theorem ci {L:List Int} (h:L.length=12):(Tryz.prog.info? 98).map (·.size)=some (cN L).size:=by
 rw [dn h]
 kernel_rfl
theorem dU (L:List Int):(cN L).all (·.oneCell')=true:=by simp [cN];intro x _;rfl
theorem iK {L:List Int} {m:Nat} {x:Int} (h:L[m]?=some x):(cN L)[m]?=some (.int .i64 x):=by simp [cN,h]
theorem wW (L:List Int) (m:Nat) (x:Int):(cN L).setIfInBounds m (.int .i64 x)=cN (L.set m x):=by simp [cN,List.map_set]
theorem sJ:(#[.int .i64 0,.int .i64 0,.int .i64 0,.int .i64 0,.int .i64 0,.int .i64 0,.int .i64 0,.int .i64 0,.int .i64 0,.int .i64 0,.int .i64 0,.int .i64 0]:Array Value)=cN (List.replicate 12 0):=rfl
theorem BS (X:List Sp):cN (kX X 0)=cN (List.replicate 12 0):=by
 unfold cN;rw [cntK_0]
 rfl
theorem pM {L:List Int} {k:Nat} {x:Int} (hk:k<12) (h:L[k]?=some x):∀ W,(Instr.index 98 (.agg (cN L)) (.int .i64 (k:Int))).run Tryz.prog W=.ok (.int .i64 x) W:=by
 intro W;have h1:0≤(k:Int)∧(k:Int)<12:=by omega
 have h2:=iK h;simp [Instr.index,run_underlying Tryz.underlying98,asIntOf,h1,hk,part,h2,go_sem]
theorem qM {w:World} {b o:Nat} {v u:Value} {p:Addr} (h:w.cell? ⟨b,o,none⟩=some v) (hn:b≠p.block):(w.setCell p u).cell? ⟨b,o,none⟩=some v:=
 (Ip (w:=w) (w':=w.setCell p u) (a:=⟨b,o,none⟩) (Ii _ _ _ _ hn)).trans h
theorem qi {w:World} {B sz n:Nat} {t:TypeId} {v:Value} {cs:List Value} {p:Addr} (h:w.ownsRow B t sz v n cs) (hp:p.block<B) (u:Value):(w.setCell p u).ownsRow B t sz v n cs:=by
 obtain ⟨h1,h2|⟨g,cap,cur,h3,h4,h5,h6⟩⟩:=h
 ·exact ⟨h1,Or.inl h2⟩
 ·exact ⟨h1,Or.inr ⟨g,cap,cur,h3,h4,(Ii _ _ _ _ (by omega)).trans h5,h6⟩⟩
theorem lR {w:World} {base e sz n:Nat} {v:Value} {xs:List Value} (h:w.ownsRow base e sz v n xs):(v=.slice none 0 0∧n=0)∨∃ g c,v=.slice (some ⟨g,0,none⟩) n c∧∀ j u,xs[j]?=some u→w.cell? ((⟨g,0,none⟩:Addr).add j)=some u:=by
 exact Q52
theorem mh {P:Program} {a:Act} {o:Oper} {w:World} (ty:TypeId) (x:Operand) (ho:o.op=.load ty x) (g:Nat) (hx:a.eval x=.pointer (some ⟨g,0,none⟩)) (t:TypeId) (cs:Array Value) (fr:Nat×Nat) (d:TypeDesc) (hg:w.heap[g]?=some (.cells cs t fr))
  (hu:P.underlying ty=some d) (hd:(match d with|.struct _|.array _ _=>true|_=>false)=true) (hi:(P.info? ty).map (·.size)=some cs.size):(execOp a.eval o).run P w=.ok (.value (.agg cs)) w:=by
 unfold execOp
 simp only [ho,hx,Instr.loadAt,Instr.sureAddr,Sem.run_bind,Sem.run_pure,Result.andThen_ok,run_loadVar_row w g t ty cs fr d hg hu hd hi]
def WgtPost (w:World) (X:List Sp) (e:Ending) (w':World):Prop:=∃ (L:List Int) (b:Bool),L.length=12∧e=.returned (.tuple #[.agg (cN L),.bool b])∧(RgMay X→b=true∧L=fp X 12)∧(¬ RgMay X→b=false)∧Below w.heap.size w w'
theorem WgtPost.no {w w':World} {X:List Sp} {L:List Int} (hL:L.length=12) (h:¬ RgMay X) (hb:Below w.heap.size w w'):WgtPost w X (.returned (.tuple #[.agg (cN L),.bool false])) w':=⟨L,false,hL,rfl,fun h'=>absurd h' h,fun _=>rfl,hb⟩
def H9 (w wr:World) (s:Value) (X:List Sp) (k:Nat):Prop:=Below w.heap.size w wr∧w.heap.size+1+1<wr.heap.size∧wr.cell? ⟨w.heap.size,0,none⟩=some s∧wr.heap[w.heap.size+1]?=some (.cells (cN (List.replicate 12 0)) 98 (0,0))∧wr.heap[w.heap.size+1+1]?=some (.cells (cN (kX X k)) 98 (0,0))∧Rg1 (X.take k)
def H8 (w wr:World) (s l:Value) (X:List Sp) (k:Nat):Prop:=Below w.heap.size w wr∧w.heap.size+1+1<wr.heap.size∧wr.cell? ⟨w.heap.size,0,none⟩=some s∧wr.heap[w.heap.size+1]?=some (.cells (cN (List.replicate 12 0)) 98 (0,0))∧wr.heap[w.heap.size+1+1]?=some (.cells (cN (fp X k)) 98 (0,0))∧(∀ b,b<k→jX X b % 4=0∧jX X b≤32)∧
 wr.ownsRow (w.heap.size+1+1+1) 106 2 l (de (ge X) k).length ((de (ge X) k).map Sp.cells).flatten
theorem jA (v:Value) (X:List Sp) (w:World) (r:aG w 2 v (X.map Sp.cells)) (hn:X.length*16≤140737488351232):Calls Tryz.prog 29 #[.agg #[v]] w (WgtPost w X):=by
 obtain ⟨i0,hi,hi0,hi1,hi2⟩:=info_parts kr;obtain ⟨a,c,rfl,_,m1,_,p1⟩:=aJ Sp.zero r;have R:=Ib r;have P1:=Ib p1;unfold maxLen at m1;clear r p1;go_enter Tryz.func29,Tryz.ntmps29;go_wp2;go_loopw [13] (fun i wr=>∃ k:Nat,k≤X.length∧i=.int .i64 k∧H9 w wr (.slice a X.length c) X k) (fun i _=>X.length - (intOf i).toNat)
 case atStart=>
  refine ⟨0,Ik _,rfl,Zb,by simp,by go_simp,?_,?_,by intro s hs;simp at hs⟩
  ·rw [← sJ];exact (If _ _ _ (by simp)).trans (au _ (by simp))
  ·rw [BS,← sJ];exact au _ (by simp)
 case round=>
  obtain ⟨k,hk,rfl,hb,hz,s0,y1,y2,hg⟩:=hrel;have HB:=Ib hb;have HG:=Ib hg;have Y1:=Ib y1;have Y2:=Ib y2;rcases (show k<X.length∨X.length=k by omega) with hlt|heq
  ·have hlt':(k:Int)<(X.length:Int):=by omega
   have p0:(0:Int)≤(k:Int):=by omega
   obtain ⟨b1,o1,rfl,hb1,q1⟩:=P1.out (by intro h;rw [h] at hlt;simp at hlt);have a0:=q1 k 0 hlt (by omega);have a1:=q1 k 1 hlt (by omega);obtain ⟨s,hs⟩:∃ s,s=X.getD k Sp.zero:=⟨_,rfl⟩;rw [← hs] at a0 a1;have HS:=Ib hs;obtain ⟨h0,m⟩:=s;simp only [Sp.cells,Il,Im,Nat.add_zero] at a0 a1;have a0:=ae hb a0 hb1;have a1:=ae hb a1 hb1;clear hs q1 hb hg y1 y2;have hm:m<0∨(¬ m<0∧12≤m)∨(0≤m∧¬ m<0∧¬ 12≤m):=by omega
   rcases hm with hm|hm|⟨hm0,hm1,hm2⟩
   ·exact Q27
   ·exact Q27
   ·obtain ⟨m,rfl⟩:=Iy hm0;have hm12:m<12:=by omega
    have e1:wr.cell? ⟨w.heap.size+1+1,m,none⟩=some (.int .i64 (jX (X.take k) m)):=(aa Y2.out m).trans (iK (qK X k hm12));have e2:wr.frozen? ⟨w.heap.size+1+1,m,none⟩=false:=ap Y2.out m;have hL:=rct_le (X.take k) m;have hL2:(X.take k).length≤k:=List.length_take_le _ _;have hm12':(m:Int)<12:=by omega
    go_wp2;go_roundw
    case rel=>
     refine ⟨k+1,by omega,by go_num,(HB.out.setCell (by simp;omega) _).alloc (by simp;have:=HB.out.size;omega) _,by simp;omega,(by repeat (first|(with_reducible assumption)|(with_reducible refine aD _ ?_)|(with_reducible refine df _ ?_)|(refine (aR (by omega)).trans ?_))),?_,?_,?_⟩
     ·exact (If _ _ _ (by simp;omega)).trans (aU Y1.out (by omega))
     ·refine (If _ _ _ (by simp;omega)).trans ((aP Y2.out _).trans ?_);rw [wW,BG HS.out hlt rfl hm12]
     ·exact CD hlt HG.out (by rw [← HS.out];exact hm0) (by rw [← HS.out];simp only;omega)
    case measure=>simp [intOf];omega
  ·have hge:¬ (k:Int)<(X.length:Int):=by omega
   have hN1:Rg1 X:=by have:=HG.out;rwa [Iv (by omega)] at this
   have HR1:=Ib hN1;have e0:=Ei X heq;rw [e0] at y2;have Y2:=Ib y2;clear hb hg y1 y2 hN1 HG;have X0:=Ib heq;clear heq e0;go_wp2_with (first|(refine t7 rfl 98 (.tmp 4) rfl (w.heap.size+1+1) rfl 98 (cN (fp X 0)) (0,0) _ (id Y2.out) Tryz.underlying98 rfl (ci (dS X 0)) ?_));go_loopw [7,34] (fun l i wr2=>∃ k:Nat,k≤12∧i=.int .i64 k∧H8 w wr2 (.slice a X.length c) l X k) (fun _ i _=>12 - (intOf i).toNat)
   case atStart=>exact ⟨0,Ik _,rfl,HB.out,hz,s0,Y1.out,Y2.out,by intro b hb;omega,IK _ _ _ _⟩
   case round=>
    clear HB Y1 Y2 hz s0;obtain ⟨k,hk,rfl,hb,hz,s0,y1,y2,hg,hown⟩:=hrel;have HB:=Ib hb;have Y1:=Ib y1;have Y2:=Ib y2;have HG:=Ib hg;have HO:=Ib hown;obtain ⟨a2,c2,rfl,_⟩:=aB hown;clear hb y1 y2 hg hown;rcases (show k<12∨k=12 by omega) with hlt|rfl
    ·have hlt':(k:Int)<12:=by omega
     have hix:=pM hlt (jk X 0 hlt);rw [if_neg (Nat.not_lt_zero k)] at hix;obtain ⟨n,hn⟩:∃ n,n=jX X k:=⟨_,rfl⟩;have HN:=Ib hn;rw [← hn] at hix;clear hn;rcases (show (¬ n % 4=0)∨(n % 4=0∧32<n)∨(n % 4=0∧n≤32) by omega) with h4|⟨h4,h5⟩|⟨h4,h5⟩
     ·have h6:¬ (n:Int) % 4=0:=by omega
      have HN:=Ib (vz hlt (by rw [← HN.out];exact Or.inl h4));exact Q30
     ·have h6:(n:Int) % 4=0:=by omega
      have h7:32<(n:Int):=by omega
      have HN:=Ib (vz hlt (by rw [← HN.out];exact Or.inr h5));exact Q30
     ·obtain ⟨q,rfl⟩:∃ q,n=4*q:=⟨n / 4,by omega⟩;have h6:((4*q:Nat):Int) % 4=0:=by omega
      have h7:¬ 32<((4*q:Nat):Int):=by omega
      have hq:(ge X).getD k 0=q:=by rw [kG X hlt,← HN.out];omega
      have HQ:=Ib hq;have hw:(de (ge X) k).length≤32*k:=uB HG.out (by omega)
      have e1:wr.cell? ⟨w.heap.size+1+1,k,none⟩=some (.int .i64 ((4*q:Nat):Int)):=by
       refine (aa Y2.out k).trans (iK ?_);rw [jk X k hlt,if_neg (by omega),← HN.out]
      have e2:wr.frozen? ⟨w.heap.size+1+1,k,none⟩=false:=ap Y2.out k;clear h4 hq;go_wp2_with fail;refine (pQ k q _ (by omega) (by omega)).mono ?_;rintro e w1 ⟨v2,rfl,hown2,hb2⟩;have hz1:=hb2.size;have hsz:∀ (p:Addr) (u:Value),(wr.setCell p u).heap.size=wr.heap.size:=fun p u=>by simp
      rw [hsz] at hz1 hb2;have HB1:=Ib ((HB.out.setCell (p:=⟨w.heap.size+1+1,k,none⟩) (by simp;omega) (.int .i64 (q:Int))).trans (hb2.mono HB.out.size));have s1:=ae hb2 (qM s0 (by show w.heap.size≠w.heap.size+1+1;omega)) (by omega);have Y1':=Ib (ai hb2 (aU Y1.out (by omega)) (by omega));have Y2':=Ib (ai hb2 (aP Y2.out _) (by omega));have HO1:=Ib (bA (qi (p:=⟨w.heap.size+1+1,k,none⟩) HO.out (by show w.heap.size+1+1<_;omega) (.int .i64 (q:Int))) (by rw [hsz];exact hb2));clear s0 Y1 Y2 HO HB hb2;have hlq:(cV k q).length=4*q:=eG k q
      have hN:∀ (v':Value) (w':World),w'.ownsRow (w.heap.size+1+1+1) 106 2 v' ((de (ge X) k).length+4*q) (((de (ge X) k).map Sp.cells).flatten++((cV k q).map Sp.cells).flatten)→w'.ownsRow (w.heap.size+1+1+1) 106 2 v' (de (ge X) (k+1)).length ((de (ge X) (k+1)).map Sp.cells).flatten:=by
       intro v' w' h;rw [dG,HQ.out,It,hlq,IH,IC];exact h
      have HW:=Ib hN
      have hmk:cN ((fp X k).set k (q:Int))=cN (fp X (k+1)):=by rw [AN X hlt,← HN.out];congr 2;omega
      rw [wW,hmk] at Y2'
      have hg':∀ b,b<k+1→jX X b % 4=0∧jX X b≤32:=by
       intro b hb;rcases (show b<k∨b=k by omega) with h|rfl
       ·exact HG.out b h
       ·rw [← HN.out];omega
      have HG':=Ib hg';clear hN hmk hg' HG;rcases lR hown2 with ⟨rfl,h0⟩|⟨g,c3,rfl,hnews⟩
      ·go_wp2_with (at_builtin;go_loud (refine wpList_append_own_none rfl _ _ 44 rfl (w.heap.size+1+1+1) 106 i0 2 Tryz.underlying44 hi _ _ _ rfl HO1.out rfl ?_));go_wp2;go_roundw
       case rel=>exact ⟨k+1,by omega,by go_num,HB1.out,by omega,s1,Y1'.out,Y2'.out,HG'.out,HW.out _ _ (by have:=HO1.out;have h1:q=0:=(by omega);subst h1;simpa [cV] using this)⟩
       case measure=>simp [intOf];omega
      ·have HNW:=Ib hnews;clear hnews;go_wp2_with (at_builtin;go_loud (refine wpList_append_own _ rfl _ _ 44 rfl (w.heap.size+1+1+1) 106 i0 (.agg #[.int .i64 0,.int .i64 0]) 2 16 Tryz.underlying44 hi hi0 hi1 hi2 rfl (by decide) _ _ _ rfl HO1.out ⟨g,0,none⟩ (4*q) c3 ((cV k q).map Sp.cells).flatten rfl ?c0 HNW.out ?c1 ?c2 ?c3 ?c4 ?_))
       case c0=>rw [aO (sz:=2) (i8 _),Iq,hlq]
       case c1=>exact tL _
       case c2=>unfold maxLen;omega
       case c3=>omega
       case c4=>omega
       intro v' w6 hown' hgrow _;obtain ⟨a',cap',rfl,_⟩:=aB hown';have HO6:=Ib (HW.out _ _ hown');have hb6:=cG (B:=w.heap.size+1+1+1) (Ic w1.heap.size w1) (by omega) HO1.out hgrow;have s6:=ae hb6 s1 (by omega);have Y6:=Ib (ai hb6 Y1'.out (by omega));have Z6:=Ib (ai hb6 Y2'.out (by omega));have HB6:=Ib (HB1.out.trans (hb6.mono (by omega)));have hz6:=hb6.size;clear hown' hgrow hb6 HO1 HB1 Y1' Y2' s1 HW;go_wp2;go_roundw
       case rel=>exact ⟨k+1,by omega,by go_num,HB6.out,by omega,s6,Y6.out,Z6.out,HG'.out,HO6.out⟩
       case measure=>simp [intOf];omega
    ·have hl12:(de (ge X) 12).length≤384:=uB HG.out (by omega)
     obtain ⟨r,hr⟩:∃ r:Bool,(uL (de (ge X) 12)=X∧r=true)∨(uL (de (ge X) 12)≠X∧r=false):=by
      by_cases h:uL (de (ge X) 12)=X
      ·exact ⟨true,Or.inl ⟨h,rfl⟩⟩
      ·exact ⟨false,Or.inr ⟨h,rfl⟩⟩
     have HR:=Ib hr;clear hr;go_wp2_with fail;refine (zm (w.heap.size+1+1+1) _ (de (ge X) 12) _ (by omega) HO.out (by omega)).mono ?_;rintro e w1 ⟨rfl,hown1,hb1,hz1,_⟩;have HB1:=Ib (HB.out.trans (hb1.mono (by omega)));have s1:=ae hb1 s0 (by omega);have Y1':=Ib (ai hb1 Y1.out (by omega));have Y2':=Ib (ai hb1 Y2.out (by omega));have hls:(uL (de (ge X) 12)).length=(de (ge X) 12).length:=(eZ _).length_eq;have HRow:=Ib (fG hown1 (by rw [Iq,hls]) (i8 _));have HRX:=Ib (aq R.out (HB1.out));clear hown1 hb1 HO s0 Y1 Y2 HB hls;go_wp2_with fail;refine wp_region_noPanic ?_;refine wp_region_held_drew (S:=fun w'=>w'.heap[w.heap.size+1+1]?=some (.cells (cN (fp X 12)) 98 (0,0))∧w'.cell? ⟨w.heap.size,0,none⟩=some (.slice a X.length c)) (by kernel_rfl) ?hb (fun hHeld=>?_)
     case hb=>exact ⟨Y2'.out,ce s1⟩
     refine wpAnyH_take (i:=0) (v:=?v0) (by simp only [Io,Il];exact rfl) (by kernel_rfl) (by kernel_rfl) (by kernel_rfl) (fun _ _ _ h=>h) (Or.inl ⟨by rfl,?y0⟩) (by assumption) ?_
     case y0=>(intro w' hSw;(try dsimp only at hSw);(refine mh 98 (.tmp 4) ?_ (w.heap.size+1+1) ?_ 98 _ (0,0) _ hSw.1 Tryz.underlying98 rfl (ci (dS X 12)))<;>rfl)
     (try simp only [Act.put,List.setIfInBounds_toArray,List.set_cons_zero,List.set_cons_succ]);refine dd 1 ?_;refine Zt 3 ?_;refine Z1 4 (fun K hK=>?_);go_simp;(go_at_call 57;refine (zL _ _ _ X _ (dB HRow.out 1) (dB HRX.out 1) r HR.out).mono ?_;rintro e w2 ⟨rfl,q2,rfl⟩);(try go_wp2_with fail);refine Zk hK (hS:=by exact hHeld) fun hHeld=>?_;clear hK K;refine Z1 5 (fun K hK=>?_);rw [if_pos (by rfl)];refine IQ 98 (.tmp 2) (.tmp 60) rfl (w.heap.size+1) (cN (fp X 12)) rfl rfl 98 (cN (List.replicate 12 0)) (ai (n:=w.heap.size+1+1) (aI (Ic (w.heap.size+1+1) w1)) Y1'.out (by omega)) (ci (dS X 12)) (by rw [dn (dS X 12)];rfl) (dU _) ?_;refine Zk hK (hS:=by exact ⟨aZ hHeld.1 (by omega),bB hHeld.2 (by omega)⟩) fun hHeld=>?_;clear hK K;refine Zt 6 ?_;refine Zd ?_;go_wp2
     all_goals
      refine IM (v:=.tuple #[.agg (cN (fp X 12)),.bool r]) ?_ rfl ⟨_,r,dS X 12,rfl,?_,?_,?_⟩
      ·exact eQ Tryz.results29 _ _ (w.heap.size+1) 98 (cN (fp X 12)) (0,0) _ _ rfl rfl (aX (ai (n:=w.heap.size+1+1) (aI (Ic (w.heap.size+1+1) w1)) Y1'.out (by omega))) Tryz.underlying98 rfl (ci (dS X 12))
      ·intro hm;rcases HR.out with ⟨_,h⟩|⟨h,_⟩
       ·exact ⟨h,rfl⟩
       ·exact absurd hm.2.2.symm h
      ·intro hm;rcases HR.out with ⟨h,_⟩|⟨_,h⟩
       ·exact absurd ⟨HR1.out,HG.out,h.symm⟩ hm
       ·exact h
      ·exact aQ (aI HB1.out) (by omega)
theorem yv (Y:List Sp) (k:Nat) (s:Sp) (h:k<Y.length):(((Y.map Sp.cells).flatten.set (k*2) (.int .i64 s.hash)).set (k*2+1) (.int .i64 s.backend))=((Y.set k s).map Sp.cells).flatten:=by
 induction Y generalizing k with
 | nil=>simp at h
 | cons y Y ih=>
  cases k with
  | zero=>simp [Sp.cells]
  | succ k=>
   have:=ih k (by simpa using h);simp only [List.map_cons,List.flatten_cons,List.set_cons_succ,Sp.cells,List.cons_append,List.nil_append] at this ⊢;rw [show (k+1)*2=k*2+1+1 by omega,List.set_cons_succ,List.set_cons_succ,List.set_cons_succ,List.set_cons_succ,this]
theorem Bt (A C:List Sp) (p:Sp) {k:Nat} (h:A.length=k):((A++p :: C).map Sp.cells).flatten[k*2]?=some (.int .i64 p.hash)∧((A++p :: C).map Sp.cells).flatten[k*2+1]?=some (.int .i64 p.backend):=by
 have hl:(A.map Sp.cells).flatten.length=k*2:=by rw [aO (i8 A),Iq,h]
 rw [IH,IC,List.map_cons,List.flatten_cons];constructor
 ·rw [IS (by omega),hl,Nat.sub_self]
  rfl
 ·rw [IS (by omega),hl,show k*2+1 - k*2=1 by omega]
  rfl
theorem Bm:(Tryz.prog.info? 3).map (fun i=>(i.zero,i.size,i.bytes))=some (some (.int .i64 0),1,8):=by kernel_rfl
theorem vp {w:World} {B B' sz n:Nat} {t:TypeId} {v:Value} {cs:List Value} (h:w.ownsRow B t sz v n cs) (hB:B'≤B):w.ownsRow B' t sz v n cs:=by
 exact Q122
def WalkPost (w:World) (L:List Int) (c:Int) (e:Ending) (w':World):Prop:=∃ v,e=.returned (.tuple #[v,.int .i64 c])∧aM w.heap.size w' 1 v (L.map fun x=>[Value.int .i64 x])∧Below w.heap.size w w'
theorem WalkPost.nil {w w':World} {c:Int} (hb:Below w.heap.size w w'):WalkPost w [] c (.returned (.tuple #[.slice none 0 0,.int .i64 c])) w':=⟨_,rfl,bD _ _ _,hb⟩
theorem WalkPost.own {w w':World} {B n:Nat} {c:Int} {v:Value} {L:List Int} (hown:w'.ownsRow B 3 1 v n (L.map (Value.int .i64))) (hn:L.length=n) (hB:w.heap.size≤B) (hb:Below w.heap.size w w'):WalkPost w L c (.returned (.tuple #[v,.int .i64 c])) w':=by
 refine ⟨v,rfl,aE (aC (e:=3) (L:=L.map fun x=>[Value.int .i64 x]) ?_ ((Iq _).trans hn) ?_) hB,hb⟩
 ·rw [show (L.map fun x=>[Value.int .i64 x]).flatten=L.map (Value.int .i64) from ?_]
  ·exact hown
  ·clear hown hn;exact Q140
 ·exact Q29
theorem jz {LL:List (List Tm)} {k:Nat} (h:k<LL.length):(LL.getD k []).length≤LL.flatten.length:=by
 have:=Gv h (Ij _);omega
theorem yt (X:List Tm) {k:Nat} (h:k≤X.length):(X.map Tm.cells).flatten.take (k*2)=((X.take k).map Tm.cells).flatten:=by
 have e:(X.map Tm.cells).flatten=((X.take k).map Tm.cells).flatten++((X.drop k).map Tm.cells).flatten:=by
  exact Q99
 rw [e];exact List.take_left' (by rw [aO (i7 _),Iq,Iz];omega)
theorem yw (X:List Tm) {k:Nat} (h:k≤X.length):(X.map Tm.cells).flatten.drop (k*2)=((X.drop k).map Tm.cells).flatten:=by
 have e:(X.map Tm.cells).flatten=((X.take k).map Tm.cells).flatten++((X.drop k).map Tm.cells).flatten:=by
  exact Q99
 rw [e];exact List.drop_left' (by rw [aO (i7 _),Iq,Iz];omega)
theorem qL {P:Program} {w:World} (t e ty:TypeId) {i0:TypeInfo} (z:Value) (sz g n cap m c B:Nat) {cs:List Value} (hu:P.underlying t=some (.slice e)) (hi:P.info? e=some i0) (hz:i0.zero=some z) (hs:z.cells.size=sz)
  (h1:∀ v∈z.cells.toList,v.oneCell'=true) (hown:w.ownsRow B e sz (.slice (some ⟨g,0,none⟩) n cap) n cs) (hin:n+m≤cap) :
  ∃ W2:World,(Builtin.clear_ #[t] ty #[.slice (some ⟨g,n*sz,none⟩) m c]).run P w=.ok (.tuple #[]) W2∧(∀ b,b≠g→W2.heap[b]?=w.heap[b]?)∧W2.heap.size=w.heap.size∧Below B w W2∧W2.ownsRow B e sz (.slice (some ⟨g,0,none⟩) n cap) n cs:=by
 have hgB:B≤g:=(hown.lt _ rfl).1
 obtain ⟨vs,hrun⟩:=jN (P:=P) w t e ty i0 z g (n*sz) m c hu hi hz (by
  intro j hj;rw [hs] at hj;rcases hown.2 with ⟨e0,_⟩|⟨g',cap',cur,e0,hb,hg,hn,hm,hsz,ht⟩
  ·cases e0
  ·injection e0 with e1 _ e3;injection e1 with e1;injection e1 with e1;subst e1;subst e3
   have h2:n*sz+j<cap*sz:=by
    have:(n+m)*sz≤cap*sz:=IA _ hin;rw [Nat.add_mul] at this;omega
   have:=aa hg (n*sz+j)
   rw [this];simp;omega) (fun j=>hown.frozenAt _) h1
 have ho:=nX hown (Ij n) (Ij _) vs
 rw [Iv (by rw [hown.1];exact Ij _)] at ho
 exact ⟨_,hrun,fun b hb=>nP vs _ w b hb,lh vs _ w,k9 hgB vs _ w (Ic _ _),ho⟩
theorem l8 {P:Program} (w:World) {o:Oper} {a:Act} {K:Act→World→Prop} {Q:Exit→Act→World→Prop} (s x:Operand) (t:TypeId)
  (ho:o.op=.call { callee:=.builtin .append,args:=#[s,x],argTypes:=#[t,t] }) (v1 v2 v':Value) (w':World) (hs:a.eval s=v1) (hx:a.eval x=v2)
  (hr:(Builtin.append_ #[t,t] o.type #[v1,v2]).run P w=.ok v' w') (h:K (a.put o.dst v') w'):o.wp P a w K Q:=by
 unfold Oper.wp execOp
 simp only [ho,resolve,invoke,builtin,Sem.run_bind,Sem.run_pure,Result.andThen_ok,List.map_toArray,List.map_cons,List.map_nil,hs,hx,hr]
 exact h
def DlPost (B:Nat) (w:World) (v:Value) (X:List Tm) (k:Nat) (e:Ending) (w':World):Prop:=∃ v',e=.returned v'∧v'.ownBlock=v.ownBlock∧w'.ownsRow B 180 2 v' (X.take k++X.drop (k+1)).length ((X.take k++X.drop (k+1)).map Tm.cells).flatten∧w.heap.size≤w'.heap.size∧(∀ b,b<w.heap.size→v.ownBlock≠some b→w'.heap[b]?=w.heap[b]?)∧Below B w w'
theorem delTm (B:Nat) (v:Value) (X:List Tm) (k:Nat) (w:World) (hB:B≤w.heap.size) (hown:w.ownsRow B 180 2 v X.length (X.map Tm.cells).flatten) (hk:k<X.length) (hn:X.length≤1048576) :
  Calls Tryz.prog 120 #[v,.int .i64 (k:Int),.int .i64 ((k:Int)+1)] w (DlPost B w v X k):=by
 obtain ⟨i0,hi,hi0,hi1,hi2⟩:=info_parts vM
 have hz:∀ W,(sizeOf 180).run Tryz.prog W=.ok 2 W:=fun W=>by simp [sizeOf,typeInfo,hi,hi1]
 have ht:Tryz.prog.underlying 177=some (.slice (Tryz.prog.elem 177)):=by kernel_rfl
 have he:Tryz.prog.elem 177=180:=by kernel_rfl
 rcases fo hown with ⟨_,h0⟩|⟨g,cap,rfl,_⟩
 ·omega
 have hcap:=tJ hown
 unfold maxLen at hcap
 have hgB:=hown.lt _ rfl
 have k1:(k:Int)<(X.length:Int):=by omega
 have k2:¬ (k:Int)=(k:Int)+1:=by omega
 have k3:((k:Int) == (k:Int)+1)=false:=by rw [beq_eq_false_iff_ne];omega
 have k4:((k:Int)+1).toNat=k+1:=by omega
 have k5:IntKind.i64.wrap ((k:Int)+1)=(k:Int)+1:=by rw [IntKind.wrap_i64];omega
 have hs0:∀ W,(Instr.slice 177 (.slice (some ⟨g,0,none⟩) X.length cap) (some (.int .i64 (k:Int))) (some (.int .i64 ((k:Int)+1))) (some (.int .i64 (X.length:Int)))).run Tryz.prog W=.ok (.slice (some ⟨g,k*2,none⟩) 1 (X.length - k)) W:=fun W=>by
  rw [run_slice_lhm W 177 _ _ _ ht .i64 .i64 .i64 _ _ _ (by omega) (by omega) (by omega) (by omega),he,hz];exact Q175
 have hs1:∀ W,(Instr.slice 177 (.slice (some ⟨g,0,none⟩) X.length cap) none (some (.int .i64 (k:Int))) none).run Tryz.prog W=.ok (.slice (some ⟨g,0,none⟩) k cap) W:=fun W=>by
  exact Q88
 have hs2:∃ ad,(k+1<X.length→ad=⟨g,(k+1)*2,none⟩)∧∀ W,(Instr.slice 177 (.slice (some ⟨g,0,none⟩) X.length cap) (some (.int .i64 ((k:Int)+1))) none none).run Tryz.prog W=.ok (.slice (some ad) (X.length - (k+1)) (cap - (k+1))) W:=by
  by_cases hc:cap=k+1
  ·refine ⟨⟨g,0,none⟩,fun h=>by omega,fun W=>?_⟩;rw [run_slice_l W 177 _ _ _ ht .i64 _ (by omega) (by omega),he,hz];simp [Result.andThen,sliced,hc,k4]
  ·refine ⟨⟨g,(k+1)*2,none⟩,fun _=>rfl,fun W=>?_⟩;rw [run_slice_l W 177 _ _ _ ht .i64 _ (by omega) (by omega),he,hz];simp [Result.andThen,sliced,hc,Addr.add_lit,k4]
 obtain ⟨ad,had,hs2⟩:=hs2
 have HO:=Ib hown
 have hown0:=Ib hown
 have HAd:=Ib had
 clear hown had ht he hz
 go_enter Tryz.func120,Tryz.ntmps120
 go_wp2_with fail
 have hfl:(X.map Tm.cells).flatten.length=X.length*2:=hown0.out.1
 have HOD:=Ib (bA HO.out (aI (n:=1) (Ic w.heap.size w)))
 have hfr:=kJ HOD.out (i:=k) (by omega)
 obtain ⟨w3,hr3,ho3,hg3⟩:=run_append_fits (P:=Tryz.prog) (w:=w.drewN 1) B 177 177 180 i0 2 Tryz.underlying177 hi hi1 g k cap _ hfr ad (X.length - (k+1)) (cap - (k+1)) (((X.drop (k+1)).map Tm.cells).flatten) (by rw [aO (i7 _),Iq,List.length_drop]) (by
  intro j u hu
  have hlt:k+1<X.length:=by
   exact Q146
  rw [HAd.out hlt,← yw X (by omega)] at *;rw [List.getElem?_drop] at hu
  have hj:(k+1)*2+j<X.length*2:=by
   rcases Nat.lt_or_ge ((k+1)*2+j) (X.length*2) with h|h
   ·exact h
   ·rw [IB (by omega)] at hu
    cases hu
  rw [Go.WideShapes.add_plain,HOD.out.cellAt _ hj,hu]) (tK _) (by omega)
 have hr3':=hr3
 rw [show k+(X.length - (k+1))=X.length - 1 by omega] at ho3 hr3'
 rw [yt X (by omega),← IC,← IH] at ho3
 have hb3:Below B w w3:=by
  exact Q103
 have hz3:w.heap.size≤w3.heap.size:=hg3.size
 have hblk:∀ b,b<w.heap.size→b≠g→w3.heap[b]?=w.heap[b]?:=fun b hb hne=>hg3.block b (by simpa using hb) (by simpa using hne)
 obtain ⟨W2,hcl,hn2,hs2',hb2,ho2⟩:=qL (w:=w3) 177 180 0 (.agg #[.int .i64 0,.int .i64 0]) 2 g (X.length - 1) cap 1 (cap - (X.length - 1)) B Tryz.underlying177 hi hi0 rfl (by decide) ho3 (by omega)
 have HB3:=Ib hb3
 have HB2:=Ib hb2
 have HO2:=Ib ho2
 have HBL:=Ib hblk
 have HN2:=Ib hn2
 clear hb3 hb2 ho2 hblk hn2 ho3 hg3 hfr hfl hr3
 (refine Zr (fun _=>True) (fun hHeld=>?_) (by (try dsimp only);all_goals exact trivial);refine eP 0 ?_;refine dd 4 ?_;refine Z1 6 (fun K hK=>?_);rw [if_pos (by rfl)];(refine l8 _ _ _ 177 rfl _ _ _ _ (by rfl) (by rfl) hr3' ?_);refine Zk hK (hS:=by (try dsimp only);all_goals exact trivial) fun hHeld=>?_;clear hK K;refine Zt 7 ?_;refine Zd ?_)
 have hc1:((X.length:Int) - 1).toNat=X.length - 1:=by omega
 have hsl:∀ W,(Instr.slice 177 (.slice (some ⟨g,0,none⟩) (X.length - 1) cap) (some (.int .i64 ((X.length - 1:Nat):Int))) (some (.int .i64 (X.length:Int))) none).run Tryz.prog W=.ok (.slice (some ⟨g,(X.length - 1)*2,none⟩) 1 (cap - (X.length - 1))) W:=fun W=>by
  have ht:Tryz.prog.underlying 177=some (.slice (Tryz.prog.elem 177)):=by kernel_rfl
  have he:Tryz.prog.elem 177=180:=by kernel_rfl
  rw [run_slice_lh W 177 _ _ _ ht .i64 .i64 _ _ (by omega) (by omega) (by omega),he];have hz:(sizeOf 180).run Tryz.prog W=.ok 2 W:=by simp [sizeOf,typeInfo,hi,hi1]
  exact Q130
 go_wp2_with fail
 go_ret
 have hz2:=hs2'
 refine ⟨_,rfl,rfl,?_,by omega,fun b hb hne=>(HN2.out b (fun e=>hne (by rw [e];rfl))).trans (HBL.out b hb (fun e=>hne (by rw [e];rfl))),HB3.out.trans HB2.out⟩
 have hl:(X.take k++X.drop (k+1)).length=X.length - 1:=by rw [It,Iz,List.length_drop];omega
 rw [hl];exact HO2.out
theorem cI {α:Type} {V:List α} {a:Nat} {x d:α} (h:a<V.length):(V.set a x).getD a d=x:=by simp [List.getD,h]
theorem cB {α:Type} {V:List α} {a i:Nat} {x d:α} (h:a≠i):(V.set a x).getD i d=V.getD i d:=by simp [List.getD,h]
theorem ip {B:Nat} {w w':World} {v v':Value} {LL:List (List Tm)} {L':List Tm} {V:List Value} {a g0 c0:Nat} (h:eM B w v LL V) (ha:a<LL.length) (hv:v=.slice (some ⟨g0,0,none⟩) LL.length c0)
  (hblk:∀ b,b<w.heap.size→(V.getD a undef).ownBlock≠some b→w'.heap[b]?=w.heap[b]?) (hat:∀ b,v'.ownBlock=some b→(V.getD a undef).ownBlock=some b∨w.heap.size≤b) (hnew:w'.ownsRow B 180 2 v' L'.length (L'.map Tm.cells).flatten) :
  eM B (w'.setCell ⟨g0,a,none⟩ v') v (LL.set a L') (V.set a v'):=by
 obtain ⟨h1,h2,h3,h4,h5⟩:=h
 have hv0:v.ownBlock=some g0:=by rw [hv];rfl
 have hg0:=h2.lt g0 hv0
 have haV:a<V.length:=by omega
 have hne0:∀ b,v'.ownBlock=some b→b≠g0:=by
  intro b hb e;subst e;rcases hat b hb with h|h
  ·exact h4 a ha b h hv0
  ·omega
 have hother:∀ i,i<LL.length→i≠a→∀ b,(V.getD i undef).ownBlock=some b→(V.getD a undef).ownBlock≠some b:=by
  intro i hi hne b hb hb';rcases Nat.lt_or_gt_of_ne hne with h|h
  ·exact h5 i a h ha b hb hb'
  ·exact h5 a i h hi b hb' hb
 have hrow:w'.ownsRow B 177 1 v LL.length V:=aY h2 (fun b hb=>by
  have e:b=g0:=by rw [hv0] at hb;injection hb with e;exact e.symm
  subst e
  exact hblk b hg0.2 (fun hb'=>h4 a ha b hb' hv0))
 refine ⟨by simp [h1],?_,fun i hi=>?_,fun i hi b hb hv'=>?_,fun i j hij hj b hb hb'=>?_⟩
 ·rw [Ix];subst hv;exact (hrow.stored _ _).1
 ·rw [Ix] at hi;by_cases hia:i=a
  ·subst hia;rw [cI haV,cI ha];exact aY hnew (fun b hb=>Ii _ _ _ _ (hne0 b hb))
  ·rw [cB (fun e=>hia e.symm),cB (fun e=>hia e.symm)];refine aY (h3 i hi) (fun b hb=>?_);have h6:=(h3 i hi).lt b hb;rw [Ii _ _ _ _ (fun e:b=g0=>h4 i hi b hb (by rw [hv0,e])),hblk b h6.2 (hother i hi hia b hb)]
 ·rw [Ix] at hi;by_cases hia:i=a
  ·subst hia;rw [cI haV] at hb;rw [hv0] at hv';injection hv' with e;exact hne0 b hb e.symm
  ·rw [cB (fun e=>hia e.symm)] at hb;exact h4 i hi b hb hv'
 ·rw [Ix] at hj
  have key:∀ i,i<LL.length→i≠a→∀ b,(V.getD i undef).ownBlock=some b→v'.ownBlock≠some b:=by
   intro i hi hne b hb hb';rcases hat b hb' with h|h
   ·exact hother i hi hne b hb h
   ·have:=((h3 i hi).lt b hb).2;omega
  by_cases hia:i=a
  ·subst hia;rw [cI haV] at hb;rw [cB (by omega)] at hb';exact key j hj (by omega) b hb' hb
  ·rw [cB (fun e=>hia e.symm)] at hb;by_cases hja:j=a
   ·subst hja;rw [cI haV] at hb';exact key i (by omega) hia b hb hb'
   ·rw [cB (fun e=>hja e.symm)] at hb';exact h5 i j hij hj b hb hb'
theorem AM {α β:Type} (f:α→β):∀ {L:List α},(L.map f).Nodup→∀ {x y:α},x∈L→y∈L→f x=f y→x=y:=by
 intro L
 induction L with
 | nil=>intro _ x y h;cases h
 | cons a L ih=>
  intro hn x y hx hy e;rw [List.map_cons,List.nodup_cons] at hn;rcases List.mem_cons.1 hx with rfl|hx
  ·rcases List.mem_cons.1 hy with rfl|hy
   ·rfl
   ·exact absurd (by rw [e];exact List.mem_map_of_mem hy) hn.1
  ·rcases List.mem_cons.1 hy with e2|hy
   ·exact absurd (by rw [← e2,← e];exact List.mem_map_of_mem hx) hn.1
   ·exact ih hn.2 hx hy e
theorem Fe {now:Int} {LL:List (List Tm)} (h:WhMay now LL) {i j:Nat} (hi:i<25) (hj:j<25) {s t:Tm} (hs:s∈LL.getD i []) (ht:t∈LL.getD j []) (e:s.id=t.id):i=j∧s=t:=by
 have hl:=h.2.2.1;have e1:=AM Tm.id h.2.2.2.2 (iF.2 ⟨i,by omega,hs⟩) (iF.2 ⟨j,by omega,ht⟩) e;subst e1;exact ⟨((h.2.2.2.1 i hi).1 s hs).2.symm.trans ((h.2.2.2.1 j hj).1 s ht).2,rfl⟩
theorem wu {α:Type} (p q:α→Bool) (L:List α):(L.filter p).filter q=(L.filter q).filter p:=by
 rw [List.filter_filter,List.filter_filter];exact List.filter_congr fun x _=>Bool.and_comm _ _
theorem Ao {LL:List (List Tm)} {a:Nat} (ha:a<LL.length) (h:(gJ LL.flatten).Nodup):(gJ (LL.getD a [])).Nodup:=by
 have e:LL.getD a []=LL[a]:=by simp [List.getD,ha]
 rw [e];exact ((List.sublist_flatten_of_mem (Iw ha)).map Tm.id).nodup h
theorem Fg {now:Int} {LL:List (List Tm)} (h:WhMay now LL) {a b:Nat} (ha:a<25) (hb:b<(LL.getD a []).length) {id:Int} (hid:((LL.getD a []).getD b Tm.zero).id=id) :
  LL.set a ((LL.getD a []).take b++(LL.getD a []).drop (b+1))=bJ now (LL.flatten.filter fun t=>!(t.id == id)):=by
 have hl:=h.2.2.1
 obtain ⟨t,ht⟩:∃ t,t=(LL.getD a []).getD b Tm.zero:=⟨_,rfl⟩
 have htm:=pv ht hb
 rw [← ht] at hid
 have hsplit:LL.getD a []=(LL.getD a []).take b++t :: (LL.getD a []).drop (b+1):=by
  have:t=(LL.getD a [])[b]:=by rw [ht,List.getD_eq_getElem?_getD,Is hb];rfl
  rw [this,List.getElem_cons_drop,IE]
 have hnd:=Ao (a:=a) (by omega) h.2.2.2.2
 rw [hsplit] at hnd
 simp only [gJ,IH,List.map_cons] at hnd
 rw [List.nodup_append] at hnd
 have hn2:=List.nodup_cons.1 hnd.2.1
 have hfil:(LL.getD a []).filter (fun t=>!(t.id == id))=(LL.getD a []).take b++(LL.getD a []).drop (b+1):=by
  conv=>lhs;rw [hsplit]
  rw [List.filter_append,List.filter_cons];have e1:(!(t.id == id))=false:=by simp [hid]
  rw [e1,if_neg (by simp),List.filter_eq_self.2 ?_,List.filter_eq_self.2 ?_]
  ·intro x hx;have:x.id≠t.id:=fun e=>hn2.1 (by rw [← e];exact List.mem_map_of_mem hx);simp;rw [← hid];exact this
  ·intro x hx;have:x.id≠t.id:=hnd.2.2 _ (List.mem_map_of_mem hx) _ ID;simp;rw [← hid];exact this
 refine jl (by rw [Ix];exact hl) (cR _ _) fun i hi=>?_
 rw [dP _ _ hi,wu,kD hl (fun j hj t ht=>((h.2.2.2.1 j hj).1 t ht).2) hi]
 by_cases hia:i=a
 ·subst hia;rw [cI (by omega),hfil];refine (gY ?_).symm;rw [← hfil];exact (h.2.2.2.1 i hi).2.filter _
 ·rw [cB (fun e=>hia e.symm),List.filter_eq_self.2 ?_]
  ·exact (gY (h.2.2.2.1 i hi).2).symm
  ·intro x hx;have:x.id≠id:=fun e=>hia (Fe h hi ha hx htm (by rw [e,hid])).1;simpa using this
end
end Go.Proofs.YtocbhafgjepnjaaGreat
