/- Texts of the row's proof. Conditions: none. -/
import Derived.Test.YtennppmadmgfoaaGreatDoorK35
import Derived.Test.YtennppmadmgfoaaGreatDoorK39
import Derived.Test.YtennppmadmgfoaaGreatDoorK40
namespace Go.Proofs.YtennppmadmgfoaaGreatDoor
open Proofs.Tryz
set_option maxRecDepth 100000
set_option maxHeartbeats 8000000
section
open Go.RowKit
def Im (T:List Sl) (k:Nat):Nat:=((T.take k).filter Sl.used).length
theorem Ea {T:List Sl} {k:Nat} (h:k<T.length):Im T (k+1)=Im T k+(if (T.getD k Sl.zero).used=true then 1 else 0):=by
 unfold Im;rw [Li h,List.filter_append,Ll,aQ h]
 cases hu:T[k].used<;>simp [hu]
theorem usN_le (T:List Sl) (k:Nat):Im T k<=T.length:=by
 unfold Im;exact Lz (List.length_filter_le _ _) (by rw [Ls];omega)
theorem zO {α:Type} (L:List α) (d:α):L=(List.range L.length).map fun i=>L.getD i d:=by
 refine List.ext_getElem (by simp) fun i h z=>?_;rw [List.getElem_map,List.getElem_range,aQ h]
theorem E9 {X:Wd} (h:GwMay X):(X.tab.filter Sl.used).length=X.flows.length:=by
 have J:(X.tab.filter Sl.used).length=((List.range X.tab.length).filter fun E=>(X.tab.getD E Sl.zero).used).length:=by
  conv=>lhs;rw [zO X.tab Sl.zero]
  rw [List.filter_map,Lh]
  rfl
 have U:((List.range X.tab.length).filter fun E=>(X.tab.getD E Sl.zero).used).Perm (X.flows.map fun z=>z.slot.toNat):=by
  refine (List.perm_ext_iff_of_nodup (List.nodup_range.sublist List.filter_sublist) ?_).2 fun E=>?_
  ·exact Q102
  ·rw [List.mem_filter,List.mem_range,LH];constructor
   ·rintro ⟨K,Y⟩;obtain ⟨z,I,W⟩:=h.us E K Y;exact ⟨z,I,by rw [W];simp⟩
   ·rintro ⟨z,I,rfl⟩;have h1:=h.fl z I;have Z:=h1.s0;have h2:=h1.s1;exact ⟨by omega,by rw [h1.sl]⟩
 rw [J,U.length_eq,Lh]
theorem Il {X:Wd} (h:GwMay X):Im X.tab X.tab.length=X.flows.length:=by
 unfold Im;rw [List.take_length];exact E9 h
def I7 (LL:List (List Tm)) (k:Nat):Nat:=(LL.take k).flatten.length
theorem Fk {LL:List (List Tm)} {k:Nat} (h:k<LL.length):I7 LL (k+1)=I7 LL k+(LL.getD k []).length:=by
 unfold I7;rw [Li h,Lv,Ll,aQ h];simp
theorem uw {X:Wd} (h:WdMay X):X.lists.flatten.length=X.flows.length:=by
 rw [h.gw.whp.length_eq];unfold ez;rw [Lh,List.filter_eq_self.2 fun z E=>by simpa using h.du z E]
theorem gT {X:Wd} (h:GwMay X):X.lists.length=25:=h.wh.2.2.1
theorem J6 {X:Wd} (h:WdMay X):I7 X.lists 25=X.flows.length:=by
 unfold I7;rw [<- gT h.gw,List.take_length];exact uw h
theorem lnN_le (LL:List (List Tm)) (k:Nat):I7 LL k<=LL.flatten.length:=by
 unfold I7
 conv=>rhs;rw [<- Lx k LL,Lv,Ll]
 omega
theorem tm_any {X:Wd} (h:WdMay X) {f:Fl} (z:f∈X.flows):(List.range 25).any (fun i=>decide ((⟨f.due,f.slot⟩:Tm)∈X.lists.getD i []))=true:=by
 have I:(⟨f.due,f.slot⟩:Tm)∈X.lists.flatten:=by
  rw [h.gw.whp.mem_iff];exact LH.2 ⟨f,List.mem_filter.2 ⟨z,by simpa using h.du f z⟩,rfl⟩
 obtain ⟨U,E,J⟩:=List.mem_flatten.1 I;obtain ⟨i,K,rfl⟩:=rH E [];rw [List.any_eq_true];refine ⟨i,List.mem_range.2 (by have:=gT h.gw;omega),?_⟩;simpa using J
def Am (F:List Fl) (k:Nat):Int:=if k=0 then -1 else (F.getD (k - 1) Fl.zero).slot
theorem Hb (F:List Fl):Am F 0=-1:=rfl
theorem Al (F:List Fl) (k:Nat):Am F (k+1)=(F.getD k Fl.zero).slot:=by simp [Am]
theorem JF {X:Wd} (h:GwMay X) {k:Nat} (z:k<X.flows.length):Am X.flows k<(X.flows.getD k Fl.zero).slot:=by
 cases k with
 | zero=>
  have:=(h.fl _ (h.at_ z)).s0;rw [Hb];omega
 | succ j=>
  rw [Al,aQ (by omega),aQ z];exact List.pairwise_iff_getElem.1 h.so j (j+1) (by omega) z (by omega)
theorem JG {X:Wd} (h:GwMay X) {k:Nat} (z:k<=X.flows.length):-1<=Am X.flows k:=by
 cases k with
 | zero=>rw [Hb];omega
 | succ j=>
  rw [Al];have:=(h.fl _ (h.at_ (show j<X.flows.length by omega))).s0;omega
theorem xo {p:Nat} {w:World} {X:Wd} {V:Vs} (h:GR p w X V) (hm:WdMay X) :
  Calls prog 52 #[.pointer (some ⟨p,0,none⟩)] w fun e w'=>e=.returned (.bool true)/\Below w.heap.size w w':=by
 have HR:=KL h
 have HX:=KL hm
 have hp:=h.2.2.2.1
 have x17:=h.c 17 (v:=V.t) rfl
 have x18:=h.c 18 (v:=V.f) rfl
 have x25:=h.c 25 (v:=V.w) rfl
 have x8:=h.c 8 (v:=.int .i64 X.cf.retries) rfl
 obtain ⟨aT,cT,eT,_,_,_,pT⟩:=aO Sl.zero h.1.ta.1
 obtain ⟨aF,cF,eF,_,_,_,pF⟩:=aO Fl.zero h.2.1
 obtain ⟨VL,hv1,hv2,hv3⟩:=h.1.wh
 obtain ⟨aL,cL,eL,_,_,_,pL⟩:=aO undef hv2.1
 rw [hv1,gT hm.gw] at eL
 rw [eT] at x17
 rw [eF] at x18
 rw [eL] at x25
 have RT:=KL (show aK w 4 (.slice aT X.tab.length cT) (X.tab.map Sl.cells) by have:=h.1.ta.1;rw [eT] at this;exact this)
 have RL:=KL (show aK w 1 (.slice aL 25 cL) (VL.map fun x=>[x]) by have:=hv2.1;rw [eL] at this;exact this)
 have Y:=KL (And.intro x17 (And.intro x18 (And.intro x25 x8)))
 have PT:=KL pT
 have PF:=KL pF
 have PL:=KL pL
 have HV:=KL (And.intro hv1 hv3)
 have n40:=hm.gw.tb.2.1
 have f40:=hm.gw.len
 have HU:=KL (Il hm.gw)
 have HN:=KL (J6 hm)
 have keep:∀ wr,Below w.heap.size w wr->GR p wr X V:=fun wr hb=>fT h hb
 have HK:=KL keep
 clear h hm eT eF eL hv1 hv2 hv3 pT pF pL keep
 go_in
 go_wp2_with fail
 go_loopw [3,23] (fun u i wr=>∃ k:Nat,k<=X.tab.length/\i=.int .i64 k/\u=.int .i64 (Im X.tab k:Nat)/\Below w.heap.size w wr) (fun _ i _=>X.tab.length - (intOf i).toNat)
 case atStart=>exact ⟨0,La _,rfl,by simp [Im],KM _ _⟩
 case round=>
  obtain ⟨k,hk,rfl,rfl,hbel⟩:=hrel;rcases (show k<X.tab.length\/k=X.tab.length by omega) with hlt|rfl
  ·have hlt':(k:Int)<(X.tab.length:Int):=by omega
   have k0:(0:Int)<=(k:Int):=by omega
   have hus:=usN_le X.tab k;have hst:=Ea hlt;obtain ⟨b1,o1,rfl,hb1,q1⟩:=PT.out (by intro e;rw [e] at hlt;simp at hlt);have a0:=(hbel.cell (p:=⟨b1,o1+k*4+0,none⟩) hb1).trans (q1 k 0 hlt (by omega));have a1:=(hbel.cell (p:=⟨b1,o1+k*4+1,none⟩) hb1).trans (q1 k 1 hlt (by omega));have a2:=(hbel.cell (p:=⟨b1,o1+k*4+2,none⟩) hb1).trans (q1 k 2 hlt (by omega));have a3:=(hbel.cell (p:=⟨b1,o1+k*4+3,none⟩) hb1).trans (q1 k 3 hlt (by omega));have HB:=KL hbel;have hz:=hbel.size;generalize X.tab.getD k Sl.zero=s at a0 a1 a2 a3 hst;obtain ⟨s0,s1,s2,s3⟩:=s;simp only [Sl.cells,Lb,Lc,Nat.add_zero] at a0 a1 a2 a3 hst;clear q1 hbel
   cases s1 with
   | true=>
    rw [if_pos rfl] at hst;have HS:=KL hst;clear hst;go_wp2;go_roundw
    case rel=>exact ⟨k+1,by omega,by go_num,by rw [HS.out];go_num,HB.out.alloc hz _⟩
    case measure=>simp [intOf];omega
   | false=>
    rw [if_neg (by simp)] at hst;have HS:=KL hst;clear hst;go_wp2;go_roundw
    case rel=>exact ⟨k+1,by omega,by go_num,by rw [HS.out];rfl,HB.out.alloc hz _⟩
    case measure=>simp [intOf];omega
  ·have hge:¬ (X.tab.length:Int)<(X.tab.length:Int):=by omega
   rw [HU.out];have x25:=ah hbel Y.out.2.2.1 hp;have x18:=ah hbel Y.out.2.1 hp;have HB:=KL hbel;have hz:=hbel.size;clear hbel;go_wp2_with fail;go_loopw [6,39] (fun u i wr=>∃ k:Nat,k<=25/\i=.int .i64 k/\u=.int .i64 (I7 X.lists k:Nat)/\Below w.heap.size w wr) (fun _ i _=>25 - (intOf i).toNat)
   case atStart=>exact ⟨0,La _,rfl,by simp [I7],HB.out⟩
   case round=>
    obtain ⟨k,hk,rfl,rfl,hbel⟩:=hrel;rcases (show k<25\/k=25 by omega) with hlt|rfl
    ·have hlt':(k:Int)<25:=by omega
     have k0:(0:Int)<=(k:Int):=by omega
     have hL25:=gT HX.out.gw;have hlt2:k<X.lists.length:=by omega
     have hst:=Fk hlt2;have hle:=lnN_le X.lists (k+1);have hfl:=uw HX.out;obtain ⟨b1,o1,rfl,hb1,q1⟩:=PL.out (by intro e;have:=HV.out.1;rw [e] at this;simp at this;omega);have a0:=(hbel.cell (p:=⟨b1,o1+k*1+0,none⟩) hb1).trans (q1 k 0 (by rw [HV.out.1];exact hlt2) (by omega));have hrow:=(HV.out.2 k hlt2).1;obtain ⟨vv,hvv⟩:∃ vv,vv=VL.getD k undef:=⟨_,rfl⟩;obtain ⟨ll,hll⟩:∃ ll,ll=X.lists.getD k []:=⟨_,rfl⟩;rw [<- hll] at hst hrow;rw [<- hvv] at hrow a0;obtain ⟨av,cv,rfl,_⟩:=ap hrow;simp only [Lb,Nat.add_zero,Nat.mul_one] at a0;have HS:=KL hst;have HB:=KL hbel;have hz:=hbel.size;have hsm:I7 X.lists k+ll.length<=40:=by omega
     clear hst hle hfl hL25 hlt2 q1 hrow hvv hll hbel;go_wp2;go_roundw
     case rel=>exact ⟨k+1,by omega,by go_num,by rw [HS.out];go_num,HB.out⟩
     case measure=>simp [intOf];omega
    ·have hge:¬ ((25:Nat):Int)<25:=by omega
     rw [HN.out];have x18:=ah hbel Y.out.2.1 hp
     have hp1:p<wr.heap.size:=by have:=hbel.size;omega
     have HB:=KL hbel;have hz:=hbel.size;clear hbel;go_wp2_with fail;go_loopw [9,72] (fun u i wr=>∃ k:Nat,k<=X.flows.length/\i=.int .i64 k/\u=.int .i64 (Am X.flows k)/\Below w.heap.size w wr) (fun _ i _=>X.flows.length - (intOf i).toNat)
     case atStart=>exact ⟨0,La _,rfl,rfl,HB.out⟩
     case round=>
      obtain ⟨k,hk,rfl,rfl,hbel⟩:=hrel;rcases (show k<X.flows.length\/k=X.flows.length by omega) with hlt|rfl
      ·have hlt':(k:Int)<(X.flows.length:Int):=by omega
       have k0:(0:Int)<=(k:Int):=by omega
       obtain ⟨b1,o1,rfl,hb1,q1⟩:=PF.out (by intro e;rw [e] at hlt;simp at hlt);have hbf:=JF HX.out.gw hlt;have hlo:=JG HX.out.gw hk;have hsu:=Al X.flows k;have hfm:=HX.out.gw.at_ hlt;have hff:=HX.out.gw.fl _ hfm;have hget:=HX.out.gw.get hfm;have hany:=tm_any HX.out hfm;have hr0:=hff.r0;have hr1:=hff.r1;have hst:=hff.st;obtain ⟨_,_,_,_,n1,n2,n3,n4,n5,n6⟩:=HX.out.gw.num hfm;have a0:=(hbel.cell (p:=⟨b1,o1+k*7+0,none⟩) hb1).trans (q1 k 0 hlt (by omega));have a1:=(hbel.cell (p:=⟨b1,o1+k*7+1,none⟩) hb1).trans (q1 k 1 hlt (by omega));have a2:=(hbel.cell (p:=⟨b1,o1+k*7+2,none⟩) hb1).trans (q1 k 2 hlt (by omega));have a3:=(hbel.cell (p:=⟨b1,o1+k*7+3,none⟩) hb1).trans (q1 k 3 hlt (by omega));have a4:=(hbel.cell (p:=⟨b1,o1+k*7+4,none⟩) hb1).trans (q1 k 4 hlt (by omega));have a5:=(hbel.cell (p:=⟨b1,o1+k*7+5,none⟩) hb1).trans (q1 k 5 hlt (by omega));have a6:=(hbel.cell (p:=⟨b1,o1+k*7+6,none⟩) hb1).trans (q1 k 6 hlt (by omega));obtain ⟨f,hf⟩:∃ f,f=X.flows.getD k Fl.zero:=⟨_,rfl⟩;rw [<- hf] at a0 a1 a2 a3 a4 a5 a6 hbf hsu hget hany hr0 hr1 hst n1 n2 n3 n4 n5 n6;obtain ⟨f0,f1,f2,f3,f4,f5,f6⟩:=f;simp only [Fl.cells,Lb,Lc,Nat.add_zero] at a0 a1 a2 a3 a4 a5 a6 hbf hsu hget hany hr0 hr1 hst n1 n2 n3 n4 n5 n6;have HSu:=KL hsu;have HGe:=KL hget;have HAn:=KL hany;have HSt:=KL hst;have HBz:=KL hbel;have hz:=hbel.size;have hp1:p<wr.heap.size:=by omega
       clear hsu hget hany hst hff hfm hf q1 hbel;go_wp2_with fail;refine bA _ (fun wb hwb=>?_)
       have bwb:Below w.heap.size w wb:=by rw [hwb];exact HBz.out.alloc hz _
       obtain ⟨bf,hbfe⟩:∃ bf,bf=wr.heap.size:=⟨_,rfl⟩
       have hbb:wb.heap[bf]?=some (.cells #[.int .i64 f0,.int .i64 f1,.int .i64 f2,.int .i64 f3,.bool f4,.int .i64 f5,.int .i64 f6] 170 (0,0)):=by rw [hwb];exact aB _ hbfe
       have lbf:=lt_of_block hbb
       have hpb:p<wb.heap.size:=by rw [hwb];simp;omega
       have hbp:bf≠p:=by omega
       have hpn:bf≠p:=hbp;have e0:wb.cell? ⟨bf,0,none⟩=some (.int .i64 f0):=ae hbb 0;have e1:wb.cell? ⟨bf,1,none⟩=some (.int .i64 f1):=ae hbb 1;have x17:=ah bwb Y.out.1 hp;have HBb:=KL (And.intro bwb hbb);rw [<- hbfe];clear hwb hbfe bwb hbb a0 a1 a2 a3 a4 a5 a6 x18;have HTb:=KL (aq RT.out HBb.out.1);refine Ko (P:=?jP1) (F:=fun nb wz=>Below wb.heap.size wb wz/\wz.heap[nb]?=some (.cells #[.int .i64 f1,.bool true,.int .i64 f2,.int .i64 f3] 167 (0,0))/\wb.heap.size<=nb) (fun key=>?jm1) ?jr1
       case jm1=>
        refine Zr (fun w':World=>w'.cell? ⟨p,17,none⟩=some (.slice aT X.tab.length cT)/\w'.cell? ⟨bf,0,none⟩=some (.int .i64 f0)/\w'.cell? ⟨bf,1,none⟩=some (.int .i64 f1)) (fun hHeld=>?_);refine eY 0 ?_;refine dl 4 ?_;refine Zt 6 ?_;refine Z2 7 11 (fun K hK=>?_) (fun K hK=>?_);(focus (go_simp;(go_at_call 80;refine (ge X.tab f0 f1 ⟨f1,true,f2,f3⟩ 0 _ _ (aq HTb.out Zb) HGe.out).mono ?_;rintro e w2 ⟨rfl,hb2⟩;have hz2:=hb2.size;(try simp at hz2);(try (have bxb:=aj hb2 (cO wb _) (dP wb _);have bx0:w2.cell? ⟨wb.heap.size,0,none⟩=some (.int .i64 0):=ae bxb 0;have bx1:w2.cell? ⟨wb.heap.size,1,none⟩=some (.bool false):=ae bxb 1;have bx2:w2.cell? ⟨wb.heap.size,2,none⟩=some (.int .i64 0):=ae bxb 2;have bx3:w2.cell? ⟨wb.heap.size,3,none⟩=some (.int .i64 0):=ae bxb 3;have bxf:∀ n,w2.frozen? ⟨wb.heap.size,n,none⟩=false:=az bxb));(try dsimp only));(try go_wp2_with fail);refine Zk hK fun hHeld=>?_;clear hK K;refine dl 8 ?_;refine Zt 10 ?_;refine Z1 11 (fun K hK=>?_);go_simp;refine Zk hK fun hHeld=>?_;clear hK K));rotate_left 1;(focus (go_simp;refine Zk hK fun hHeld=>?_;clear hK K;refine Z1 7 (fun K hK=>?_);go_simp;(go_at_call 80;refine (ge X.tab f0 f1 ⟨f1,true,f2,f3⟩ 0 _ _ (aq HTb.out Zb) HGe.out).mono ?_;rintro e w2 ⟨rfl,hb2⟩;have hz2:=hb2.size;(try simp at hz2);(try (have bxb:=aj hb2 (cO wb _) (dP wb _);have bx0:w2.cell? ⟨wb.heap.size,0,none⟩=some (.int .i64 0):=ae bxb 0;have bx1:w2.cell? ⟨wb.heap.size,1,none⟩=some (.bool false):=ae bxb 1;have bx2:w2.cell? ⟨wb.heap.size,2,none⟩=some (.int .i64 0):=ae bxb 2;have bx3:w2.cell? ⟨wb.heap.size,3,none⟩=some (.int .i64 0):=ae bxb 3;have bxf:∀ n,w2.frozen? ⟨wb.heap.size,n,none⟩=false:=az bxb));(try dsimp only));(try go_wp2_with fail);refine Zk hK fun hHeld=>?_;clear hK K;refine dl 8 ?_;refine Zt 10 ?_));rotate_left 1;(all_goals (refine Z1 12 (fun K hK=>?_);go_simp;refine Zk hK fun hHeld=>?_;clear hK K;refine Zt 13 ?_));(all_goals refine Zd ?_)
        ·refine bA _ (fun wz hwz=>?_)
         have hbz:Below wb.heap.size wb wz:=by rw [hwz];exact (KS (KN (KM _ _)) (hb2.mono (by simp))).alloc (by omega) _
         obtain ⟨nb,hnb⟩:∃ nb,nb=w2.heap.size:=⟨_,rfl⟩;rw [<- hnb];exact key nb wz ⟨hbz,by rw [hwz];exact aB _ hnb,by omega⟩
        ·refine bA _ (fun wz hwz=>?_);have hba:Below wb.heap.size wb w2:=KS (KN ((KM _ _).alloc (KY _) _)) (hb2.mono (by simp));have hle:=KY wb.heap.size
         have hbz:Below wb.heap.size wb wz:=by rw [hwz];exact (((hba.setCell hle _).setCell hle _).setCell hle _).setCell hle _
         obtain ⟨nb,hnb⟩:∃ nb,nb=wb.heap.size:=⟨_,rfl⟩;rw [<- hnb];exact key nb wz ⟨hbz,by rw [hwz,hnb];exact aR (aR (aR (aR bxb _) _) _) _,by omega⟩
       case jr1=>
        rintro nb wz ⟨hbz,hnb,hnl⟩;have bzw:Below w.heap.size w wz:=HBb.out.1.trans (hbz.mono HBb.out.1.size);have hbf':=aj hbz HBb.out.2 lbf;have y0:wz.cell? ⟨bf,0,none⟩=some (.int .i64 f0):=ae hbf' 0;have y2:wz.cell? ⟨bf,2,none⟩=some (.int .i64 f2):=ae hbf' 2;have y3:wz.cell? ⟨bf,3,none⟩=some (.int .i64 f3):=ae hbf' 3;have y5:wz.cell? ⟨bf,5,none⟩=some (.int .i64 f5):=ae hbf' 5;have y6:wz.cell? ⟨bf,6,none⟩=some (.int .i64 f6):=ae hbf' 6;have s2:wz.cell? ⟨nb,2,none⟩=some (.int .i64 f2):=ae hnb 2;have s3:wz.cell? ⟨nb,3,none⟩=some (.int .i64 f3):=ae hnb 3;have x8:=ah bzw Y.out.2.2.2 hp;have lnb:=lt_of_block hnb;have lbz:=lt_of_block hbf'
        have hpz:p<wz.heap.size:=by have:=bzw.size;omega
        have hng:¬ f0<=Am X.flows k:=by omega
        have HZ:=KL (And.intro bzw hbf');clear hbz hnb hnl bzw hbf' e0 e1 x17;go_wp2_with fail;go_quiet ((go_at_call 29;exact Calls.quiet_of_same ((mf _ _ _ _ hr0 hr1).mono (fun _ _ h=>⟨h.1,h.2.symm⟩))));go_wp2_with fail;refine fh _ (fun wc hwc=>?_)
        have bwc:Below wz.heap.size wz wc:=by rw [hwc];exact aM (KM _ _)
        have bww:=HZ.out.1.trans (bwc.mono HZ.out.1.size);have HC:=KL (And.intro bww (aj bwc HZ.out.2 lbz));refine (ea (HK.out wc bww) f3 HX.out.gw.bk).mono ?_;rintro e w3 ⟨rfl,hb3⟩;have b3w:=HC.out.1.trans (hb3.mono HC.out.1.size);have hb3':=aj hb3 HC.out.2 (lt_of_block HC.out.2);have y6:w3.cell? ⟨bf,6,none⟩=some (.int .i64 f6):=ae hb3' 6;have x25:=ah b3w Y.out.2.2.1 hp;have l3:=lt_of_block hb3'
        have hp3:p<w3.heap.size:=by have:=b3w.size;omega
        have H3:=KL b3w;obtain ⟨st,hst⟩:∃ st,st=i8 X.lives f3:=⟨_,rfl⟩;have hst':=HSt.out;rw [<- hst] at hst' ⊢;clear hwc bwc bww hb3 b3w hb3' hst y0 y2 y3 y5 s2 s3 x8 hng lnb lbz hpz;rcases hst' with rfl|rfl
        all_goals
         go_wp2_with fail
         refine fh _ (fun wd hwd=>?_)
         have bd:Below w3.heap.size w3 wd:=by rw [hwd];exact (KM _ _).alloc (KY _) _
         have hbt:wd.heap[w3.heap.size]?=some (.cells #[.int .i64 f6,.int .i64 f0] 184 (0,0)):=by rw [hwd];exact aB _ rfl
         have bdw:=H3.out.trans (bd.mono H3.out.size)
         have t0:wd.cell? ⟨w3.heap.size,0,none⟩=some (.int .i64 f6):=ae hbt 0
         have t1:wd.cell? ⟨w3.heap.size,1,none⟩=some (.int .i64 f0):=ae hbt 1
         have lbt:=lt_of_block hbt
         have hVl:VL.length=25:=by rw [HV.out.1];exact gT HX.out.gw
         have hct:=GI 95 ⟨w3.heap.size,0,none⟩ (fun _ _=>rfl) (fun i=>decide ((⟨f6,f0⟩:Tm)∈X.lists.getD i [])) (.slice aL 25 cL) VL wd (aq RL.out bdw) (by omega)
          (fun i hi w' hb'=>flows1 (VL.getD i undef) (X.lists.getD i []) ⟨f6,f0⟩ w3.heap.size w' (aq (HV.out.2 i (by rw [<- HV.out.1];exact hi)).1 (bdw.trans (hb'.mono bdw.size))) (ah hb' t0 lbt) (ah hb' t1 lbt)) (by rw [hVl];exact HAn.out)
         refine hct.mono ?_
         rintro e w4 ⟨rfl,hb4⟩
         have H4:=KL (bdw.trans (hb4.mono bdw.size))
         clear hct hwd bd hbt bdw t0 t1 hb4 x25 y6
         go_wp2
         go_roundw
         case rel=>exact ⟨k+1,by omega,by go_num,by rw [HSu.out],H4.out⟩
         case measure=>simp [intOf];omega
      ·have hge:¬ (X.flows.length:Int)<(X.flows.length:Int):=by omega
       have HB:=KL hbel;clear hbel;go_wp2
       all_goals first|(go_ret;exact ⟨rfl,HB.out⟩)|exact Zx
structure LvS (w w1:World) (L:List Lf) (k:Nat) (wr:World):Prop where
 be:Below w.heap.size w wr
 rg:∃ a c,wr.heap[w.heap.size]?=some (.cells #[.slice a (oD L k).length c] 48 (0,0))/\dj (fun b=>w.heap.size<b) wr 2 (.slice a (oD L k).length c) ((oD L k).map Sp.cells)
 kp:Kp (w.heap.size+1) w1 wr
theorem LvS.keep {w I wr wr':World} {L:List Lf} {k:Nat} (z:LvS w I L k wr) (h:Below wr.heap.size wr wr'):LvS w I L k wr':=by
 obtain ⟨J,U,E,W⟩:=z.rg;exact ⟨z.be.trans (h.mono z.be.size),⟨J,U,aj h E (lt_of_block E),bI W h.size (fun K Y _=>h.block K Y)⟩,z.kp.trans (Kp.of_below h)⟩
theorem LvS.step {w h wr wr':World} {L:List Lf} {k:Nat} (I:LvS w h L k wr) (e:oD L (k+1)=oD L k) (U:Below wr.heap.size wr wr'):LvS w h L (k+1) wr':=by
 have:=I.keep U;obtain ⟨z,E,J,K⟩:=this.rg;exact ⟨this.be,⟨z,E,by rw [e];exact J,by rw [e];exact K⟩,this.kp⟩
theorem LvS.new {w J wr E:World} {L:List Lf} {k:Nat} {a:Option Addr} {c:Nat} (I:LvS w J L k wr) (U:Below wr.heap.size wr E) (r:aN wr.heap.size E 2 (.slice a (oD L (k+1)).length c) ((oD L (k+1)).map Sp.cells)) :
  LvS w J L (k+1) (E.setCell ⟨w.heap.size,0,none⟩ (.slice a (oD L (k+1)).length c)):=by
 obtain ⟨Z,c',K,h2⟩:=I.rg
 have a0:=lt_of_block K
 have z:=(I.keep U)
 obtain ⟨a2,c2,Y,_⟩:=z.rg
 refine ⟨z.be.setCell (KY _) _,⟨a,c,aR Y _,?_⟩,z.kp.set (Nat.lt_succ_self _) _ _⟩
 exact bI (bU (eE r) (fun h _ W=>(by omega:w.heap.size<h))) (by simp) (fun h _ W=>KV _ _ _ _ (fun e:h=w.heap.size=>by omega))
theorem xj {p:Nat} {w:World} {X:Wd} {V:Vs} (h:GR p w X V) (hm:WdMay X) :
  Calls prog 53 #[.pointer (some ⟨p,0,none⟩)] w fun e w'=>e=.returned (.bool true)/\Below w.heap.size w w':=by
 have HX:=KL hm
 have hp:=h.2.2.2.1
 have x17:=h.c 17 (v:=V.t) rfl
 have x19:=h.c 19 (v:=V.l) rfl
 have x21:=h.c 21 (v:=V.s) rfl
 have x16:=h.c 16 (v:=.int .i64 X.now) rfl
 obtain ⟨aT,cT,eT,_,_,_,pT⟩:=aO Sl.zero h.1.ta.1
 obtain ⟨aL,cL,eL,_,_,_,pL⟩:=aO Lf.zero h.1.li.1
 obtain ⟨aS,cS,eS,_⟩:=ap h.1.sp.1
 rw [eT] at x17
 rw [eL] at x19
 rw [eS] at x21
 have RT:=KL (show aK w 4 (.slice aT X.tab.length cT) (X.tab.map Sl.cells) by have:=h.1.ta.1;rw [eT] at this;exact this)
 have RS:=KL (show aK w 2 (.slice aS X.ring.length cS) (X.ring.map Sp.cells) by have:=h.1.sp.1;rw [eS] at this;exact this)
 obtain ⟨bT,oT,rfl,hbT,qT⟩:=pT (by intro e;have:=hm.gw.tb.1;rw [e] at this;simp at this)
 have QT:=KL qT
 have PL:=KL pL
 have Y:=KL (And.intro x19 (And.intro x21 x16))
 have n12:X.lives.length<=12:=hm.gw.bk.1
 clear h hm eT eL eS pT pL qT
 go_in
 go_wp2_with fail
 refine fh _ (fun wa hwa=>?_)
 have ba:Below w.heap.size w wa:=by rw [hwa];exact (KM _ _).alloc (KY _) _
 have ka:wa.heap[w.heap.size]?=some (.cells #[.slice none 0 0] 48 (0,0)):=by rw [hwa];exact aB _ rfl
 have za:wa.heap.size=w.heap.size+1:=by rw [hwa];simp
 refine (jY bT oT cT X.tab wa (by omega) HX.out.gw.tb (aq RT.out ba) (fun i j hi hj=>(ba.cell (p:=⟨bT,_,none⟩) hbT).trans (QT.out i j hi hj))).mono ?_
 rintro e w1 ⟨vc,rfl,rc,hb1⟩
 have b1:=ba.trans (hb1.mono ba.size)
 have k1:=aj hb1 ka (lt_of_block ka)
 obtain ⟨vca,vcc,rfl,_,_,_,pC⟩:=aO (0:Int) rc.1
 rw [gW] at *
 obtain ⟨bC,oC,rfl,hbC,qC⟩:=pC (by intro e;have:=gW X.tab X.tab.length;rw [e] at this;simp at this)
 have hbC2:w.heap.size<bC:=by have:=rc.2 _ _ _ rfl;simp only at this;omega
 have QC:=KL qC
 have x19:=ah b1 Y.out.1 hp
 have hp1:p<w1.heap.size:=by have:=b1.size;omega
 have S0:=KL (show LvS w w1 X.lives 0 w1 from ⟨b1,⟨none,0,by rw [Ep];exact k1,by rw [Ep];exact ⟨iG _ _,fun b o n c e _=>by cases e⟩⟩,Kp.refl _ _⟩)
 clear hwa ba ka za rc hb1 b1 k1 pC qC x16 x21 x17
 go_wp2_with fail
 go_loopw [25] (fun i wr=>∃ k:Nat,k<=X.lives.length/\i=.int .i64 k/\LvS w w1 X.lives k wr) (fun i _=>X.lives.length - (intOf i).toNat)
 case atStart=>exact ⟨0,La _,rfl,S0.out⟩
 case round=>
  obtain ⟨k,hk,rfl,hs⟩:=hrel;have HS:=KL hs;have hbel:=hs.be;have hz:=hbel.size;have hpr:p<wr.heap.size:=by omega
  rcases (show k<X.lives.length\/k=X.lives.length by omega) with hlt|rfl
  ·have hlt':(k:Int)<(X.lives.length:Int):=by omega
   have k0:(0:Int)<=(k:Int):=by omega
   obtain ⟨b1,o1,rfl,hb1,q1⟩:=PL.out (by intro e;rw [e] at hlt;simp at hlt)
   have hm:X.lives.getD k Lf.zero∈X.lives:=by rw [aQ hlt];exact Lp hlt
   have hbk:=eZ HX.out.gw.bk hm;have hsi:=HX.out.gw.si _ hm;have hun:=HX.out.un _ hm;have hcp:=Jy HX.out.gw hm;have had:=rl_add HX.out.gw.bk hlt;have hke:=IF HX.out.gw.bk hlt;have hrl:=jA (Eo HX.out.gw.bk k);have a0:=(hbel.cell (p:=⟨b1,o1+k*6+0,none⟩) hb1).trans (q1 k 0 hlt (by omega));have a1:=(hbel.cell (p:=⟨b1,o1+k*6+1,none⟩) hb1).trans (q1 k 1 hlt (by omega));have a2:=(hbel.cell (p:=⟨b1,o1+k*6+2,none⟩) hb1).trans (q1 k 2 hlt (by omega));have a3:=(hbel.cell (p:=⟨b1,o1+k*6+3,none⟩) hb1).trans (q1 k 3 hlt (by omega));have a4:=(hbel.cell (p:=⟨b1,o1+k*6+4,none⟩) hb1).trans (q1 k 4 hlt (by omega));have a5:=(hbel.cell (p:=⟨b1,o1+k*6+5,none⟩) hb1).trans (q1 k 5 hlt (by omega));have x16:=ah hbel Y.out.2.2 hp;obtain ⟨x,hx⟩:∃ x,x=X.lives.getD k Lf.zero:=⟨_,rfl⟩;rw [<- hx] at a0 a1 a2 a3 a4 a5 hbk hsi hun hcp had hke;obtain ⟨x0,x1,x2,x3,x4,x5⟩:=x;simp only [Lf.cells,Lb,Lc,Nat.add_zero] at a0 a1 a2 a3 a4 a5 hbk hsi hun hcp had hke;obtain ⟨h0,h1,h2,h3,h4,h5,h6,h7,h8,h9,hst⟩:=hbk;simp only at h0 h1 h2 h3 hst;have HCp:=KL hcp;have HAd:=KL had;have HKe:=KL hke;have HUn:=KL hun;have nsi:¬ X.now<x3:=by omega
   have hst4:x1=1\/x1=2\/x1=3\/x1=4:=by omega
   clear hm hx hcp had hke hun hst q1 h4 h5 h6 h7 h8 h9 hs;obtain ⟨n0,rfl⟩:=Lr h0;obtain ⟨ra,rc,hr1,hr2⟩:=HS.out.rg;have xr:wr.cell? ⟨w.heap.size,0,none⟩=some (.slice ra (oD X.lives k).length rc):=ae hr1 0;have lr:=lt_of_block hr1;have HR1:=KL (And.intro hr1 hr2);have n0':n0<12:=by omega
   have hkp:=HS.out.kp
   have cC:wr.cell? ⟨bC,oC+n0,none⟩=some (.int .i64 ((il X.tab X.tab.length).getD n0 0)):=by
    have:=QC.out n0 0 n0' (by omega);simp only [Nat.mul_one,Nat.add_zero,Lb] at this;rw [<- this];exact Lg (a:=⟨bC,oC+n0,none⟩) (hkp.2 bC (by omega) hbC)
   obtain ⟨cv,hcv⟩:∃ cv,cv=(il X.tab X.tab.length).getD n0 0:=⟨_,rfl⟩;rw [<- hcv] at cC;have HCv:=KL hcv;have n0i:(n0:Int)<12:=by omega
   have n0j:(0:Int)<=(n0:Int):=by omega
   have lC:bC<wr.heap.size:=by have:=hkp.1;omega
   clear hr1 hr2 hkp hcv;rcases hst4 with rfl|rfl|rfl|rfl
   ·exact Q38
   ·go_wp2_with fail;go_quiet (fail);go_wp2_with fail;refine fh _ (fun wc hwc=>?_)
    have bwc:Below wr.heap.size wr wc:=by rw [hwc];exact (by repeat (first|exact KM _ _|refine aM ?_|refine KU ?_ (by first|omega|(simp;done)|(simp;omega)) _))
    refine (ri _ (oD X.lives k) wc (n0:Int) x2 (oD X.lives (k+1)) 0 (aq HR1.out.2.1 bwc) (by omega) (HAd.out (by first|rfl|trivial))).mono ?_;rintro e w2 ⟨v2,rfl,R2,hb2⟩;obtain ⟨a2,c2,rfl,_⟩:=ap R2.1;have bw2:=bwc.trans (hb2.mono bwc.size);have hk2:=aj bw2 HR1.out.1 lr;have xr:w2.cell? ⟨w.heap.size,0,none⟩=some (.slice ra (oD X.lives k).length rc):=ae hk2 0;have xf:∀ n,w2.frozen? ⟨w.heap.size,n,none⟩=false:=fun n=>az hk2 n;have lr2:=lt_of_block hk2;have hsz:=bwc.size;have HN:=KL (HS.out.new bw2 ⟨R2.1,fun a n c e=>Lz hsz (R2.2 a n c e)⟩);clear hwc bwc hb2 bw2 hk2 R2 hsz cC;go_wp2;go_roundw
    case rel=>exact ⟨k+1,by omega,by go_num,HN.out⟩
    case measure=>simp [intOf];omega
   ·have nun:¬ x4<=X.now:=by have:=HUn.out rfl;omega
    have ncv:¬ cv=0:=by have:=HCp.out rfl;rw [Lm] at this;rw [HCv.out];exact this
    have nunD:decide (x4<=X.now)=false:=by simpa using nun
    have ncvD:decide (cv=0)=false:=by simpa using ncv
    have ncvB:(cv == 0)=false:=by simpa using ncv
    go_wp2_with fail;go_quiet (fail);exact Q38
   ·exact Q38
  ·have hge:¬ (X.lives.length:Int)<(X.lives.length:Int):=by omega
   obtain ⟨ra,rc,hr1,hr2⟩:=hs.rg;have xr:wr.cell? ⟨w.heap.size,0,none⟩=some (.slice ra (oD X.lives X.lives.length).length rc):=ae hr1 0;have lr:=lt_of_block hr1;have x21:=ah hbel Y.out.2.1 hp;have HQ:=KL (And.intro hr2.1 (aq RS.out hbel));have HG:=KL (rl_all HX.out.gw);have HB:=KL hbel;clear hs hr1 hr2 hbel;go_wp2_with fail;go_quiet ((go_at_call 98;exact Calls.quiet_of (Bz _ _ (oD X.lives X.lives.length) X.ring _ (dH HQ.out.1 _) (dH HQ.out.2 _) true (Or.inl ⟨HG.out,rfl⟩))));go_wp2
   all_goals first|(go_ret;exact ⟨rfl,(by repeat (first|exact HB.out|refine aM ?_))⟩)|exact Zx
theorem GR_box {p:Nat} {w:World} {X:Wd} {V:Vs} {vo:Value} {T:TypeId} (h:WA w X V) (z:w.heap[p]?=some (.cells (dz X V++[vo]).toArray T (0,0))):GR p w X V:=by
 refine ⟨h.ro,h.fl,h.he,lt_of_block z,fun i I hv=>?_⟩
 have E:i<26:=by
  exact Q119
 rw [ae z i,Le,LR (by rw [jD];exact E),hv]
theorem Cu {w:World} {X:Wd} {V:Vs} (h:WA w X V) (hm:WdMay X):Calls prog 34 #[.agg (dz X V).toArray] w fun e w'=>e=.returned (.bool true)/\Below w.heap.size w w':=by
 have HW:=KL h;have z:=KL hm
 obtain ⟨aH,cH,eH⟩:∃ a c,V.h=.slice a (eO X V).length c:=by obtain ⟨a,c,e,_⟩:=h.he;exact ⟨a,c,e⟩
 rw [eC h.ro.ml,hm.gw.hl] at eH;obtain ⟨aT,cT,eT,_⟩:=ap h.ro.ta.1;have RH:=KL (show aK w 4 (.slice aH 12 cH) (eO X V) by have:=h.he;rw [eH] at this;exact this);obtain ⟨K,Z,bv,ab,aS⟩:∃ K Z,aH=some ⟨K,Z,none⟩/\K<w.heap.size/\∀ i j,i<12->j<4->w.cell? ⟨K,Z+i*4+j,none⟩=(wD (V.m.getD i undef) (X.health.getD i Ht.zero))[j]?:=Gi RH.out HW.out.ro.ml z.out.gw.hl;subst bv;have aa:=KL aS;have eA:(dz X V).toArray=#[.int .i64 (X.tab.length:Int),.int .i64 X.cf.num,.int .i64 X.cf.den,.int .i64 X.cf.tries,.int .i64 X.cf.warm,.int .i64 X.cf.drain,.int .i64 X.cf.idle,.int .i64 X.cf.connect,.int .i64 X.cf.retries,.int .i64 X.cf.most,.int .i64 X.cf.bn,.int .i64 X.cf.bd,.int .i64 X.cf.bb,.int .i64 X.cf.ww,.int .i64 X.cf.wf,.int .i64 X.cf.wh,.int .i64 X.now,.slice aT X.tab.length cT,V.f,V.l,V.r,V.s,.slice (some ⟨K,Z,none⟩) 12 cH,.int .i64 X.tok,.int .i64 X.now,V.w]:=by rw [wdA,eH,eT,hm.gw.tl,hm.gw.wn]
 have HA:=KL eA;rw [eA]
 have bb:jC ⟨(X.tab.length:Int),X.cf.num,X.cf.den,X.cf.tries,X.cf.warm,X.cf.drain,X.cf.idle,X.cf.connect,X.cf.retries,X.cf.most,X.cf.bn,X.cf.bd,X.cf.bb,X.cf.ww,X.cf.wf,X.cf.wh⟩:=by rw [hm.gw.tl];exact hm.gw.cf
 have bn:=KL bb;have bu:=KL eT;have n0:=hm.gw.n0;have n1:=hm.gw.n1;clear h hm aS eA bb eH eT;go_in;go_wp2_with fail;refine fh _ (fun W0 ag=>?_)
 have b0:Below w.heap.size w W0:=by rw [ag];exact (KM _ _).alloc (KY _) _
 have k0:W0.heap[w.heap.size]?=some (.cells #[.int .i64 (X.tab.length:Int),.int .i64 X.cf.num,.int .i64 X.cf.den,.int .i64 X.cf.tries,.int .i64 X.cf.warm,.int .i64 X.cf.drain,.int .i64 X.cf.idle,.int .i64 X.cf.connect,.int .i64 X.cf.retries,.int .i64 X.cf.most,.int .i64 X.cf.bn,.int .i64 X.cf.bd,.int .i64 X.cf.bb,.int .i64 X.cf.ww,.int .i64 X.cf.wf,.int .i64 X.cf.wh,.int .i64 X.now,.slice aT X.tab.length cT,V.f,V.l,V.r,V.s,.slice (some ⟨K,Z,none⟩) 12 cH,.int .i64 X.tok,.int .i64 X.now,V.w] 56 (0,0)):=by rw [ag];exact aB _ rfl
 clear ag;refine (kF _ _ _ _ _ _ _ _ _ _ _ _ _ _ _ _ W0 bn.out).mono ?_;rintro e w1 ⟨rfl,ak⟩;have b1:=b0.trans (ak.mono b0.size);have Y:=aj ak k0 (lt_of_block k0);have x0:=ae Y 0;have U:=ae Y 16;have ay:=ae Y 17;simp only [Le,Lc,Lb] at x0 U ay;have l1:=lt_of_block Y;have B1:=KL (And.intro b1 Y);clear b0 k0 ak b1 Y;go_wp2_with (go_at_call 29;refine (mf _ _ _ _ n0 n1).mono ?_;rintro e w2 ⟨rfl,rfl⟩);refine (fp _ X.tab _ (by have:=(HW.out.below B1.out.1).ro.ta.1;have e:=bu.out;rw [e] at this;exact this) z.out.gw.tb).mono ?_;rintro e w2 ⟨rfl,al⟩;have b1:=B1.out.1;have Y:=B1.out.2;have b2:=b1.trans (al.mono b1.size);have I:=aj al Y (lt_of_block Y);have x0:=ae I 0;have U:=ae I 16;have ay:=ae I 17;have bE:=ae I 19;have bT:=ae I 20;have a3:=ae I 22;simp only [Le,Lc,Lb] at x0 U ay bE bT a3;have l2:=lt_of_block I;have B2:=KL (And.intro b2 I);clear al b1 Y b2 I;go_wp2_with fail;refine (kD _ _ X.lives X.reqs 0 _ (HW.out.below B2.out.1).ro.li.1 (HW.out.below B2.out.1).ro.re.1 (Or.inl ⟨z.out.gw.bk,rfl⟩)).mono ?_;rintro e w3 ⟨rfl,an⟩;have b2:=B2.out.1;have I:=B2.out.2;have b3:=b2.trans (an.mono b2.size);have E:=aj an I (lt_of_block I);have bx:=ae E 10;have bz:=ae E 11;have bC:=ae E 12;have U:=ae E 16;have a3:=ae E 22;have bW:=ae E 23;have aA:=ae E 24;have aF:=ae E 25;simp only [Le,Lc,Lb] at bx bz bC U a3 bW aA aF;have l3:=lt_of_block E;have B3:=KL (And.intro b3 E);have ba:=z.out.gw.cf.2.1;clear an b2 I b3 E;go_wp2_with fail;refine (jH _ _ _ _ _ ba ⟨z.out.gw.t0,z.out.gw.t1⟩).mono ?_;rintro e w4 ⟨rfl,ao⟩;have b3:=B3.out.1;have E:=B3.out.2;have b4:=b3.trans (ao.mono b3.size);have k4:=aj ao E (lt_of_block E);have U:=ae k4 16;have aA:=ae k4 24;have aF:=ae k4 25;simp only [Le,Lc,Lb] at U aA aF;have l4:=lt_of_block k4;have B4:=KL (And.intro b4 k4);clear ao b3 E b4 k4 ba;go_wp2_with fail;refine dA _ (fun wc a1=>?_)
 have J:Below w4.heap.size w4 wc:=by rw [a1];exact (KM _ _).alloc (KY _) _
 have b5:=B4.out.1.trans (J.mono B4.out.1.size);have k5:=aj J B4.out.2 (lt_of_block B4.out.2);refine (dg V.w X.now X.lists (-1) wc (HW.out.below b5).ro.wh.at_ (by have:=gT z.out.gw;omega) (by have:=uw z.out;have:=z.out.gw.len;omega) 0 [] 8 (Or.inr (Or.inl ⟨z.out.gw.wh,fun t ht=>by have:=(z.out.gw.wh.tm t ht).2.2.2.1;omega,rfl,rfl,rfl⟩))).mono ?_;rintro e w6 ⟨v6,rfl,R6,au⟩;obtain ⟨a6,c6,rfl⟩:=bL R6.at_;have b6:=b5.trans (au.mono b5.size);have k6:=aj au k5 (lt_of_block k5);have a3:=ae k6 22;simp only [Le,Lc,Lb] at a3;have l6:=lt_of_block k6;have B6:=KL (And.intro b6 k6);clear a1 J b5 k5 au R6 b6 k6;go_wp2_with fail;refine qq _ (fun wl bd=>?_)
 have bl:=show Below w6.heap.size w6 wl by rw [bd];exact (KM _ _).alloc (KY _) _
 have S0:=KL (And.intro (B6.out.1.trans (bl.mono B6.out.1.size)) (aj bl B6.out.2 (lt_of_block B6.out.2)));clear bd bl a3 l6;go_loopw [81] (fun i wr=>∃ k:Nat,k<=12/\i=.int .i64 k/\Below w.heap.size w wr/\wr.heap[w.heap.size]?=some (.cells #[.int .i64 (X.tab.length:Int),.int .i64 X.cf.num,.int .i64 X.cf.den,.int .i64 X.cf.tries,.int .i64 X.cf.warm,.int .i64 X.cf.drain,.int .i64 X.cf.idle,.int .i64 X.cf.connect,.int .i64 X.cf.retries,.int .i64 X.cf.most,.int .i64 X.cf.bn,.int .i64 X.cf.bd,.int .i64 X.cf.bb,.int .i64 X.cf.ww,.int .i64 X.cf.wf,.int .i64 X.cf.wh,.int .i64 X.now,.slice aT X.tab.length cT,V.f,V.l,V.r,V.s,.slice (some ⟨K,Z,none⟩) 12 cH,.int .i64 X.tok,.int .i64 X.now,V.w] 56 (0,0))) (fun i _=>12 - (intOf i).toNat)
 case atStart=>exact ⟨0,La _,rfl,S0.out.1,S0.out.2⟩
 case round=>
  obtain ⟨k,hk,rfl,W,a0⟩:=hrel;have hz:=W.size;have l0:=lt_of_block a0;have HB:=KL (And.intro W a0);rcases (show k<12\/k=12 by omega) with a2|rfl
  ·have bY:(k:Int)<12:=by omega
   have c3:(0:Int)<=(k:Int):=by omega
   have a9:=(HW.out.below W).ro.mr k (by rw [z.out.gw.hl];exact a2);have a8:=z.out.gw.ht k a2;have aw:=z.out.gw.ho k a2;have q0:=(W.cell (p:=⟨K,Z+k*4+0,none⟩) ab).trans (aa.out k 0 a2 (by omega));have q1:=(W.cell (p:=⟨K,Z+k*4+1,none⟩) ab).trans (aa.out k 1 a2 (by omega));have q2:=(W.cell (p:=⟨K,Z+k*4+2,none⟩) ab).trans (aa.out k 2 a2 (by omega));have q3:=(W.cell (p:=⟨K,Z+k*4+3,none⟩) ab).trans (aa.out k 3 a2 (by omega));simp only [wD,Lb,Lc,Nat.add_zero] at q0 q1 q2 q3;obtain ⟨H,hH⟩:∃ H,H=X.health.getD k Ht.zero:=⟨_,rfl⟩;obtain ⟨mv,bc⟩:∃ mv,mv=V.m.getD k undef:=⟨_,rfl⟩;rw [<- hH] at a9 a8 aw q1 q2 q3;rw [<- bc] at a9 q0;have a7:=BI X.cf H X.now a8;obtain ⟨bt,a7⟩:=a7;have hM:=(fJ a8).2.2.2.1;have c2:=(fJ a8).1.2.1;obtain ⟨M2,b8⟩:∃ M2,M2=fQ X.now H:=⟨_,rfl⟩;rw [<- b8] at a7;obtain ⟨am,cm,rfl,_⟩:=fC a9.1;have br:=KL a9.1;have bm:=KL a7;obtain ⟨M_,o_,u_,t_⟩:=H;obtain ⟨N_,o2,bw,t2⟩:=M2;have bq:=KL aw;have bf:=ae a0 13;have bi:=ae a0 14;have bj:=ae a0 15;have U:=ae a0 16;simp only [Le,Lc,Lb] at bf bi bj U;simp only at q1 q2 q3 hM;clear a9 a8 aw a7 b8 hH bc W a0;go_wp2_with fail;refine dA _ (fun wc a1=>?_)
   have J:Below wr.heap.size wr wc:=by rw [a1];exact (KM _ _).alloc (KY _) _
   have hh:wc.heap[wr.heap.size]?=some (.cells #[.slice am M_.length cm,.bool o_,.int .i64 u_,.int .i64 t_] 162 (0,0)):=by rw [a1];exact aB _ rfl
   refine (rk _ _ _ M_ o_ u_ t_ X.now N_ o2 bw t2 bt 0 _ wc (aq br.out J) (by omega) bm.out).mono ?_;rintro e w5 ⟨v5,rfl,R5,ar⟩;obtain ⟨a5,c5,rfl,_⟩:=fC R5.1;have af:=J.trans (ar.mono J.size);have h5:=aj ar hh (lt_of_block hh);have p1:w5.cell? ⟨wr.heap.size,1,none⟩=some (.bool o_):=ae h5 1;have p2:w5.cell? ⟨wr.heap.size,2,none⟩=some (.int .i64 u_):=ae h5 2;have ac:=aj af HB.out.2 l0;have U:=ae ac 16;simp only [Le,Lc,Lb] at U;have l5:=lt_of_block h5;have l5':=lt_of_block ac;have H5:=KL (And.intro (HB.out.1.trans (af.mono HB.out.1.size)) ac);clear a1 J hh R5 ar af h5 ac q0 q1 q2 q3 bf bi bj
   cases o_ with
   | false=>
    exact Q93
   | true=>
    have hu:decide (u_<=X.now)=false:=by have:=bq.out rfl;simp;omega
    have c1:¬ u_<=X.now:=by simpa using hu
    exact Q93
  ·have bX:¬ ((12:Nat):Int)<12:=by omega
   obtain ⟨AW,a4⟩:∃ AW,AW=(dz X V).toArray:=⟨_,rfl⟩;obtain ⟨AZ,b7⟩:∃ AZ,AZ=(dz X V++[Value.slice none 0 0]).toArray:=⟨_,rfl⟩;have HK:=KL (show wr.heap[w.heap.size]?=some (.cells AW 56 (0,0)) by rw [a4,HA.out];exact a0);have HI:=KL (show (prog.info? 56).map (·.size)=some AW.size by rw [a4];kernel_rfl);have aL:=KL b7;have bk:=KL a4
   have c0:AW.size=26:=by rw [a4];rfl
   have bs:=KL (HW.out.below W);clear W a0 a4 b7;go_wp2_with (refine LO rfl 56 (.tmp 1) rfl w.heap.size rfl 56 AW (0,0) _ HK.out underlying56 rfl HI.out ?_);refine dA _ (fun wc a1=>?_)
   have ax:wc=wr.alloc (.cells AZ 134 (0,0)):=by
    rw [a1,aL.out,bk.out]
    kernel_rfl
   have J:Below wr.heap.size wr wc:=by rw [ax];exact (KM _ _).alloc (KY _) _
   have hg:=GR_box (p:=wr.heap.size) (T:=134) (vo:=.slice none 0 0) (bs.out.below J) (by rw [ax,aL.out];exact aB _ rfl);have HG:=KL (And.intro hg (HB.out.1.trans (J.mono HB.out.1.size)));clear a1 ax J hg;refine (xo HG.out.1 z.out).mono ?_;rintro e w7 ⟨rfl,av⟩;have ad:=KL (And.intro (fT HG.out.1 av) (HG.out.2.trans (av.mono HG.out.2.size)));clear av;go_wp2_with fail;refine (xj ad.out.1 z.out).mono ?_;rintro e w8 ⟨rfl,b9⟩;have bp:=KL (ad.out.2.trans (b9.mono ad.out.2.size));clear b9;go_wp2
   all_goals first|(go_ret;exact ⟨rfl,bp.out⟩)|exact Zx
theorem oO {F:List Fl} {i:Nat} (h:i<F.length) {f:Fl} (z:F.getD i Fl.zero=f) (j:Nat) (E:j<7) (u:Value) (f':Fl) (I:(Fl.cells f).set j u=Fl.cells f'):((F.set i f').map Fl.cells).flatten=(F.map Fl.cells).flatten.set (i*7+j) u:=by
 rw [fW u E (iU F) (by simpa using h),List.map_set,<- I]
 congr 3
 rw [<- z];simp [List.getD,h]
theorem rT {F:List Fl} {i:Nat} (h:i<F.length) (f:Fl):(F.set i f).getD i Fl.zero=f:=by rw [cR h,if_pos rfl]
theorem Dw {X:Wd} {i:Nat} {f:Fl} (h:X.flows.getD i Fl.zero=f) (k y:Int):(gV X i k y).1=(cj (jy X i (eQ X.tab f)) f.backend).1:=by subst h;rfl
theorem Dv {X:Wd} {i:Nat} {f:Fl} (h:X.flows.getD i Fl.zero=f) (k y:Int) (O:List Out):O++(gV X i k y).2=O++[⟨k,f.slot,f.gen,f.backend,0,0,y⟩]++(cj (jy X i (eQ X.tab f)) f.backend).2:=by subst h;simp [gV]
theorem Gv {X:Wd} {i:Nat} {f:Fl} (z:X.flows.getD i Fl.zero=f) (why:Int) (h:f.retries=X.cf.retries\/X.tok<X.cf.bd):fg X i why=gV (ce X f.backend.toNat true) i 6 why:=by subst z;unfold fg;simp only;rw [if_pos h]
theorem fail_b {X:Wd} {i:Nat} {f:Fl} (E:X.flows.getD i Fl.zero=f) (I:Int) (h:¬ (f.retries=X.cf.retries\/X.tok<X.cf.bd)) (z:(dG (ce X f.backend.toNat true) f.key.toNat f.slot).2≠0):fg X i I=gV (ce X f.backend.toNat true) i 6 4:=by subst E;unfold fg;simp only;rw [if_neg h,if_pos z]
theorem fail_c {X:Wd} {i:Nat} {f:Fl} (I:X.flows.getD i Fl.zero=f) (J:Int) (z:¬ (f.retries=X.cf.retries\/X.tok<X.cf.bd)) (E:(dG (ce X f.backend.toNat true) f.key.toNat f.slot).2=0) :
  fg X i J=((if f.backend=(dG (ce X f.backend.toNat true) f.key.toNat f.slot).1 then (iS (ce X f.backend.toNat true) i (dG (ce X f.backend.toNat true) f.key.toNat f.slot).1,[]) else cj (iS (ce X f.backend.toNat true) i (dG (ce X f.backend.toNat true) f.key.toNat f.slot).1) f.backend).1,
   ⟨5,f.slot,f.gen,(dG (ce X f.backend.toNat true) f.key.toNat f.slot).1,0,0,0⟩ :: (if f.backend=(dG (ce X f.backend.toNat true) f.key.toNat f.slot).1 then (iS (ce X f.backend.toNat true) i (dG (ce X f.backend.toNat true) f.key.toNat f.slot).1,[]) else cj (iS (ce X f.backend.toNat true) i (dG (ce X f.backend.toNat true) f.key.toNat f.slot).1) f.backend).2):=by
 subst I;unfold fg;simp only;rw [if_neg z,if_neg (fun h=>h E)]
theorem mV {B p:Nat} {w:World} {X:Wd} {O:List Out} {S:List Nat} {V:Vs} {vo:Value} (h:G B p w X O S V vo) (hm:GwMay X) (i:Nat) (hi:i<X.flows.length) (why:Int) (hO:O.length<=800000) :
  Calls prog 78 #[.pointer (some ⟨p,0,none⟩),.int .i64 (i:Int),.int .i64 why] w (GTo B p w S (fg X i why).1 (O++(fg X i why).2) (fun _=>True) (.tuple #[])):=by
 obtain ⟨f,hf⟩:∃ f,X.flows.getD i Fl.zero=f:=⟨_,rfl⟩
 have a8:f∈X.flows:=by rw [<- hf,aQ hi];exact Lp hi
 have ax:=hm.num a8
 have a7:=hm.fl f a8
 have aF:=hm.len
 have A0:=GA.start h
 obtain ⟨g,cfl,ev⟩:=A0.shape (by intro e;rw [e] at hi;simp at hi)
 obtain ⟨_,aH,hg2,aL,aS,al⟩:=A0.flow ev hi hf
 have av:=KL ev
 have au:=A0.c 18 (v:=V.f) rfl
 rw [ev] at au
 have HX:=KL hm
 have aw:=KL a8
 have ay:=KL a7
 have HF:=KL hf
 obtain ⟨s,es,hs,ao,n1,n2,n3,n4,n5,n6⟩:=ax
 have aA:=KL ao
 have r0:=a7.r0
 have r1:=a7.r1
 have aT:X.cf.retries<=20:=by have:=hm.cf.1.2.2;omega
 have ER:Hid (fg X i why=fg X i why):=rfl
 obtain ⟨f0,f1,f2,f3,f4,f5,f6⟩:=f
 simp only at es n1 n2 n3 n4 n5 n6 r0 r1
 subst es
 obtain ⟨bk,rfl⟩:=Lr n5
 obtain ⟨ky,rfl⟩:=Lr n3
 have ad:bk<12:=by omega
 have hky:ky<4294967296:=by omega
 have d3:w.cell? ⟨g,i*7+3,none⟩=some (.int .i64 (bk:Int)):=al 3 (by omega)
 have hp:=h.plt
 have i0:(0:Int)<=(i:Int):=by omega
 have i1:(i:Int)<(X.flows.length:Int):=by omega
 have HA:=KL A0
 have HG:=KL h
 have HN:=KL hm.note
 clear h hm hf a8 a7 ao A0 ev al
 go_in
 go_wp2_with (go_at_call 81;refine (zv HG.out bk ad true HN.out).mono ?_;rintro e w1 ag;obtain ⟨S1,V1,vo1,rfl,J,an,b8,hb1⟩:=HA.out.call ag;clear ag)
 obtain ⟨X1,Z⟩:∃ X1,X1=ce X bk true:=⟨_,rfl⟩
 have HX1:=KL Z
 have am:GwMay X1:=by rw [Z];exact HX.out.noted ad true
 have a2:X1.flows=X.flows:=by rw [Z];rfl
 have W:X1.cf=X.cf:=by rw [Z];rfl
 have a9:X1.tok=X.tok:=by rw [Z];rfl
 rw [<- Z] at J
 have ab:X1.flows.getD i Fl.zero=⟨(s:Int),f1,(ky:Int),(bk:Int),f4,f5,f6⟩:=by rw [a2];exact HF.out
 have ak:(⟨(s:Int),f1,(ky:Int),(bk:Int),f4,f5,f6⟩:Fl)∈X1.flows:=by rw [a2];exact aw.out
 have hi1:i<X1.flows.length:=by rw [a2];exact hi
 have aa:V1.f=.slice (some ⟨g,0,none⟩) X.flows.length cfl:=by rw [show V1.f=V.f from an];exact av.out
 obtain ⟨_,k1,k2,k3,k4,k5⟩:=J.flow aa hi1 ab
 have d0:w1.cell? ⟨g,i*7+0,none⟩=some (.int .i64 (s:Int)):=k5 0 (by omega)
 have d1:w1.cell? ⟨g,i*7+1,none⟩=some (.int .i64 f1):=k5 1 (by omega)
 have d2:w1.cell? ⟨g,i*7+2,none⟩=some (.int .i64 (ky:Int)):=k5 2 (by omega)
 have d3:w1.cell? ⟨g,i*7+3,none⟩=some (.int .i64 (bk:Int)):=k5 3 (by omega)
 have d5:w1.cell? ⟨g,i*7+5,none⟩=some (.int .i64 f5):=k5 5 (by omega)
 have d6:w1.cell? ⟨g,i*7+6,none⟩=some (.int .i64 f6):=k5 6 (by omega)
 rw [Nat.add_zero] at d0
 have x8:w1.cell? ⟨p,8,none⟩=some (.int .i64 X.cf.retries):=by have:=J.c 8 (v:=.int .i64 X1.cf.retries) rfl;rw [W] at this;exact this
 have x10:w1.cell? ⟨p,10,none⟩=some (.int .i64 X.cf.bn):=by have:=J.c 10 (v:=.int .i64 X1.cf.bn) rfl;rw [W] at this;exact this
 have x11:w1.cell? ⟨p,11,none⟩=some (.int .i64 X.cf.bd):=by have:=J.c 11 (v:=.int .i64 X1.cf.bd) rfl;rw [W] at this;exact this
 have x12:w1.cell? ⟨p,12,none⟩=some (.int .i64 X.cf.bb):=by have:=J.c 12 (v:=.int .i64 X1.cf.bb) rfl;rw [W] at this;exact this
 have x7:w1.cell? ⟨p,7,none⟩=some (.int .i64 X.cf.connect):=by have:=J.c 7 (v:=.int .i64 X1.cf.connect) rfl;rw [W] at this;exact this
 have x23:w1.cell? ⟨p,23,none⟩=some (.int .i64 X.tok):=by have:=J.c 23 (v:=.int .i64 X1.tok) rfl;rw [a9] at this;exact this
 have af:=HX.out.cf.2.1
 have ar:0<=X.tok/\X.tok<=X.cf.bb*X.cf.bd:=⟨HX.out.t0,HX.out.t1⟩
 have a5:=KL af
 have a6:=KL ar
 have HA1:=KL J
 have HM1:=KL am
 have HF1:=KL ab
 have HFm1:=KL ak
 have HEv1:=KL aa
 have hp1:p<w1.heap.size:=J.plt
 have HEf1:=KL a2
 have HEc1:=KL W
 have HEt1:=KL a9
 clear J am ab ak aa k5 a2 W a9 Z af ar an hb1 au
 by_cases hsp:X.tok<X.cf.bd
 ·skip
  refine Zr (fun w':World=>w'.cell? ⟨p,10,none⟩=some (.int .i64 X.cf.bn)/\w'.cell? ⟨p,11,none⟩=some (.int .i64 X.cf.bd)/\w'.cell? ⟨p,12,none⟩=some (.int .i64 X.cf.bb)/\w'.cell? ⟨p,23,none⟩=some (.int .i64 X.tok)) (fun hHeld=>?_);refine eD 0 ?_;refine dl 8 ?_;refine Zt 10 ?_;refine Z2 11 15 (fun K hK=>?_) (fun K hK=>?_);(focus (go_simp;(go_at_call 126;refine (jX _ _ _ _ _ a5.out a6.out hsp).mono ?_;rintro e w2 ⟨rfl,hb2⟩;have U:=hb2.size;(try simp at U);(try (have z:=aj hb2 (cO w1 _) (dP w1 _);have a0:w2.cell? ⟨w1.heap.size,0,none⟩=some (.int .i64 0):=ae z 0;have a1:∀ n,w2.frozen? ⟨w1.heap.size,n,none⟩=false:=az z));(try dsimp only));(try go_wp2_with fail);refine Zk hK fun hHeld=>?_;clear hK K;refine dl 12 ?_;refine Zt 14 ?_;refine Z1 15 (fun K hK=>?_);go_simp;refine Zk hK fun hHeld=>?_;clear hK K));rotate_left 1;(focus (go_simp;refine Zk hK fun hHeld=>?_;clear hK K;refine Z1 11 (fun K hK=>?_);go_simp;(go_at_call 126;refine (jX _ _ _ _ _ a5.out a6.out hsp).mono ?_;rintro e w2 ⟨rfl,hb2⟩;have U:=hb2.size;(try simp at U);(try (have z:=aj hb2 (cO w1 _) (dP w1 _);have a0:w2.cell? ⟨w1.heap.size,0,none⟩=some (.int .i64 0):=ae z 0;have a1:∀ n,w2.frozen? ⟨w1.heap.size,n,none⟩=false:=az z));(try dsimp only));(try go_wp2_with fail);refine Zk hK fun hHeld=>?_;clear hK K;refine dl 12 ?_;refine Zt 14 ?_));rotate_left 1;(all_goals (refine Z1 16 (fun K hK=>?_);go_simp;refine Zk hK fun hHeld=>?_;clear hK K;refine Zt 17 ?_));(all_goals refine Zd ?_)
  ·skip
   refine bA _ (fun wz I=>?_)
   have hbz:Below w1.heap.size w1 wz:=by rw [I];exact (KS (KN (KM _ _)) (hb2.mono (by simp))).alloc (by omega) _
   obtain ⟨nb,E⟩:∃ nb,nb=w2.heap.size:=⟨_,rfl⟩
   have hnz:wz.heap[nb]?=some (.cells #[.int .i64 0] 51 (0,0)):=by rw [I];exact aB _ E
   have ac:w1.heap.size<=nb:=by omega
   rw [<- E];clear I E hb2 U;exact Q68
  ·skip
   refine bA _ (fun wz I=>?_);have a3:Below w1.heap.size w1 w2:=KS (KN ((KM _ _).alloc (KY _) _)) (hb2.mono (by simp))
   have hbz:Below w1.heap.size w1 wz:=by rw [I];exact a3.setCell (KY _) _
   obtain ⟨nb,E⟩:∃ nb,nb=w1.heap.size:=⟨_,rfl⟩
   have hnz:wz.heap[nb]?=some (.cells #[.int .i64 0] 51 (0,0)):=by rw [I,E];exact aR (j:=0) z (.int .i64 0)
   have ac:w1.heap.size<=nb:=by omega
   clear a0 a1 z;rw [<- E];clear I E hb2 a3 U;exact Q68
 ·have hsp:X.cf.bd<=X.tok:=by omega
  refine Zr (fun w':World=>w'.cell? ⟨p,10,none⟩=some (.int .i64 X.cf.bn)/\w'.cell? ⟨p,11,none⟩=some (.int .i64 X.cf.bd)/\w'.cell? ⟨p,12,none⟩=some (.int .i64 X.cf.bb)/\w'.cell? ⟨p,23,none⟩=some (.int .i64 X.tok)) (fun hHeld=>?_);refine eD 0 ?_;refine dl 8 ?_;refine Zt 10 ?_;refine Z2 11 15 (fun K hK=>?_) (fun K hK=>?_);(focus (go_simp;(go_at_call 126;refine (lV _ _ _ _ _ a5.out a6.out hsp).mono ?_;rintro e w2 ⟨rfl,hb2⟩;have U:=hb2.size;(try simp at U);(try (have z:=aj hb2 (cO w1 _) (dP w1 _);have a0:w2.cell? ⟨w1.heap.size,0,none⟩=some (.int .i64 0):=ae z 0;have a1:∀ n,w2.frozen? ⟨w1.heap.size,n,none⟩=false:=az z));(try dsimp only));(try go_wp2_with fail);refine Zk hK fun hHeld=>?_;clear hK K;refine dl 12 ?_;refine Zt 14 ?_;refine Z1 15 (fun K hK=>?_);go_simp;refine Zk hK fun hHeld=>?_;clear hK K));rotate_left 1;(focus (go_simp;refine Zk hK fun hHeld=>?_;clear hK K;refine Z1 11 (fun K hK=>?_);go_simp;(go_at_call 126;refine (lV _ _ _ _ _ a5.out a6.out hsp).mono ?_;rintro e w2 ⟨rfl,hb2⟩;have U:=hb2.size;(try simp at U);(try (have z:=aj hb2 (cO w1 _) (dP w1 _);have a0:w2.cell? ⟨w1.heap.size,0,none⟩=some (.int .i64 0):=ae z 0;have a1:∀ n,w2.frozen? ⟨w1.heap.size,n,none⟩=false:=az z));(try dsimp only));(try go_wp2_with fail);refine Zk hK fun hHeld=>?_;clear hK K;refine dl 12 ?_;refine Zt 14 ?_));rotate_left 1;(all_goals (refine Z1 16 (fun K hK=>?_);go_simp;refine Zk hK fun hHeld=>?_;clear hK K;refine Zt 17 ?_));(all_goals refine Zd ?_)
  ·skip
   refine bA _ (fun wz I=>?_)
   have hbz:Below w1.heap.size w1 wz:=by rw [I];exact (KS (KN (KM _ _)) (hb2.mono (by simp))).alloc (by omega) _
   obtain ⟨nb,E⟩:∃ nb,nb=w2.heap.size:=⟨_,rfl⟩
   have hnz:wz.heap[nb]?=some (.cells #[.int .i64 (X.tok - X.cf.bd)] 51 (0,0)):=by rw [I];exact aB _ E
   have ac:w1.heap.size<=nb:=by omega
   rw [<- E];clear I E hb2 U;exact Q4
  ·skip
   refine bA _ (fun wz I=>?_);have a3:Below w1.heap.size w1 w2:=KS (KN ((KM _ _).alloc (KY _) _)) (hb2.mono (by simp))
   have hbz:Below w1.heap.size w1 wz:=by rw [I];exact a3.setCell (KY _) _
   obtain ⟨nb,E⟩:∃ nb,nb=w1.heap.size:=⟨_,rfl⟩
   have hnz:wz.heap[nb]?=some (.cells #[.int .i64 (X.tok - X.cf.bd)] 51 (0,0)):=by rw [I,E];exact aR (j:=0) z (.int .i64 (X.tok - X.cf.bd))
   have ac:w1.heap.size<=nb:=by omega
   clear a0 a1 z;rw [<- E];clear I E hb2 a3 U;exact Q4
end
end Go.Proofs.YtennppmadmgfoaaGreatDoor
