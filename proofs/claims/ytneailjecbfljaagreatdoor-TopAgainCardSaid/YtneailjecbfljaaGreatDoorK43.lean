/- Texts of the row's proof. Conditions: none. -/
import Derived.Test.YtneailjecbfljaaGreatDoorK37
import Derived.Test.YtneailjecbfljaaGreatDoorK41
import Derived.Test.YtneailjecbfljaaGreatDoorK42
namespace Go.Proofs.YtneailjecbfljaaGreatDoor
set_option maxRecDepth 100000
set_option maxHeartbeats 8000000
section
open Go.RowKit
def EU (T:List Sl) (k:Nat):Nat:=((T.take k).filter Sl.used).length
theorem C7 {T:List Sl} {k:Nat} (h:k<T.length):EU T (k+1)=EU T k+(if (T.getD k Sl.zero).used=true then 1 else 0):=by
 unfold EU;rw [I6 h,List.filter_append,I8,aO h]
 cases hu:T[k].used<;>simp [hu]
theorem usN_le (T:List Sl) (k:Nat):EU T k≤T.length:=by
 unfold EU;exact Il (List.length_filter_le _ _) (by rw [Ie];omega)
theorem yg {α:Type} (L:List α) (d:α):L=(List.range L.length).map fun i=>L.getD i d:=by
 refine List.ext_getElem (by simp) fun i h1 h2=>?_;rw [List.getElem_map,List.getElem_range,aO h1]
theorem C5 {X:Wd} (h:GwMay X):(X.tab.filter Sl.used).length=X.flows.length:=by
 have e:(X.tab.filter Sl.used).length=((List.range X.tab.length).filter fun i=>(X.tab.getD i Sl.zero).used).length:=by
  conv=>lhs;rw [yg X.tab Sl.zero]
  rw [List.filter_map,I5]
  rfl
 have hp:((List.range X.tab.length).filter fun i=>(X.tab.getD i Sl.zero).used).Perm (X.flows.map fun f=>f.slot.toNat):=by
  refine (List.perm_ext_iff_of_nodup (List.nodup_range.sublist List.filter_sublist) ?_).2 fun i=>?_
  ·exact Q115
  ·rw [List.mem_filter,List.mem_range,Io];constructor
   ·rintro ⟨hi,hu⟩;obtain ⟨f,hf,hs⟩:=h.us i hi hu;exact ⟨f,hf,by rw [hs];simp⟩
   ·rintro ⟨f,hf,rfl⟩;have h1:=h.fl f hf;have h0:=h1.s0;have h2:=h1.s1;exact ⟨by omega,by rw [h1.sl]⟩
 rw [e,hp.length_eq,I5]
theorem ES {X:Wd} (h:GwMay X):EU X.tab X.tab.length=X.flows.length:=by
 unfold EU;rw [List.take_length];exact C5 h
def EC (LL:List (List Tm)) (k:Nat):Nat:=(LL.take k).flatten.length
theorem CZ {LL:List (List Tm)} {k:Nat} (h:k<LL.length):EC LL (k+1)=EC LL k+(LL.getD k []).length:=by
 unfold EC;rw [I6 h,Ih,I8,aO h];simp
theorem td {X:Wd} (h:WdMay X):X.lists.flatten.length=X.flows.length:=by
 rw [h.gw.whp.length_eq];unfold ed;rw [I5,List.filter_eq_self.2 fun f hf=>by simpa using h.du f hf]
theorem gM {X:Wd} (h:GwMay X):X.lists.length=25:=h.wh.2.2.1
theorem FH {X:Wd} (h:WdMay X):EC X.lists 25=X.flows.length:=by
 unfold EC;rw [← gM h.gw,List.take_length];exact td h
theorem lnN_le (LL:List (List Tm)) (k:Nat):EC LL k≤LL.flatten.length:=by
 unfold EC
 conv=>rhs;rw [← Ij k LL,Ih,I8]
 omega
theorem tm_any {X:Wd} (h:WdMay X) {f:Fl} (hf:f∈X.flows):(List.range 25).any (fun i=>decide ((⟨f.due,f.slot⟩:Tm)∈X.lists.getD i []))=true:=by
 have hm:(⟨f.due,f.slot⟩:Tm)∈X.lists.flatten:=by
  rw [h.gw.whp.mem_iff];exact Io.2 ⟨f,List.mem_filter.2 ⟨hf,by simpa using h.du f hf⟩,rfl⟩
 obtain ⟨l,hl,ht⟩:=List.mem_flatten.1 hm;obtain ⟨i,hi,rfl⟩:=qt hl [];rw [List.any_eq_true];refine ⟨i,List.mem_range.2 (by have:=gM h.gw;omega),?_⟩;simpa using ht
def yE (F:List Fl) (k:Nat):Int:=if k=0 then -1 else (F.getD (k - 1) Fl.zero).slot
theorem Ea (F:List Fl):yE F 0=-1:=rfl
theorem yD (F:List Fl) (k:Nat):yE F (k+1)=(F.getD k Fl.zero).slot:=by simp [yE]
theorem Gr {X:Wd} (h:GwMay X) {k:Nat} (hk:k<X.flows.length):yE X.flows k<(X.flows.getD k Fl.zero).slot:=by
 cases k with
 | zero=>
  have:=(h.fl _ (h.at_ hk)).s0;rw [Ea];omega
 | succ j=>
  rw [yD,aO (by omega),aO hk];exact List.pairwise_iff_getElem.1 h.so j (j+1) (by omega) hk (by omega)
theorem Gs {X:Wd} (h:GwMay X) {k:Nat} (hk:k≤X.flows.length):-1≤yE X.flows k:=by
 cases k with
 | zero=>rw [Ea];omega
 | succ j=>
  rw [yD];have:=(h.fl _ (h.at_ (show j<X.flows.length by omega))).s0;omega
theorem vd {p:Nat} {w:World} {X:Wd} {V:Vs} (h:GR p w X V) (hm:WdMay X) :
  Calls Tryz.prog 47 #[.pointer (some ⟨p,0,none⟩)] w fun e w'=>e=.returned (.bool true)∧Below w.heap.size w w':=by
 have HR:=Hp h
 have HX:=Hp hm
 have hp:=h.2.2.2.1
 have x17:=h.c 17 (v:=V.t) rfl
 have x18:=h.c 18 (v:=V.f) rfl
 have x25:=h.c 25 (v:=V.w) rfl
 have x8:=h.c 8 (v:=.int .i64 X.cf.retries) rfl
 obtain ⟨aT,cT,eT,_,_,_,pT⟩:=aK Sl.zero h.1.ta.1
 obtain ⟨aF,cF,eF,_,_,_,pF⟩:=aK Fl.zero h.2.1
 obtain ⟨VL,hv1,hv2,hv3⟩:=h.1.wh
 obtain ⟨aL,cL,eL,_,_,_,pL⟩:=aK undef hv2.1
 rw [hv1,gM hm.gw] at eL
 rw [eT] at x17
 rw [eF] at x18
 rw [eL] at x25
 have RT:=Hp (show aI w 4 (.slice aT X.tab.length cT) (X.tab.map Sl.cells) by have:=h.1.ta.1;rw [eT] at this;exact this)
 have RL:=Hp (show aI w 1 (.slice aL 25 cL) (VL.map fun x=>[x]) by have:=hv2.1;rw [eL] at this;exact this)
 have Y:=Hp (And.intro x17 (And.intro x18 (And.intro x25 x8)))
 have PT:=Hp pT
 have PF:=Hp pF
 have PL:=Hp pL
 have HV:=Hp (And.intro hv1 hv3)
 have n40:=hm.gw.tb.2.1
 have f40:=hm.gw.len
 have HU:=Hp (ES hm.gw)
 have HN:=Hp (FH hm)
 have keep:∀ wr,Below w.heap.size w wr→GR p wr X V:=fun wr hb=>fM h hb
 have HK:=Hp keep
 clear h hm eT eF eL hv1 hv2 hv3 pT pF pL keep
 go_enter Tryz.func47,Tryz.ntmps47
 go_wp2_with fail
 go_loopw [3,23] (fun u i wr=>∃ k:Nat,k≤X.tab.length∧i=.int .i64 k∧u=.int .i64 (EU X.tab k:Nat)∧Below w.heap.size w wr) (fun _ i _=>X.tab.length - (intOf i).toNat)
 case atStart=>exact ⟨0,I0 _,rfl,by simp [EU],Hq _ _⟩
 case round=>
  obtain ⟨k,hk,rfl,rfl,hbel⟩:=hrel;rcases (show k<X.tab.length∨k=X.tab.length by omega) with hlt|rfl
  ·have hlt':(k:Int)<(X.tab.length:Int):=by omega
   have k0:(0:Int)≤(k:Int):=by omega
   have hus:=usN_le X.tab k;have hst:=C7 hlt;obtain ⟨b1,o1,rfl,hb1,q1⟩:=PT.out (by intro e;rw [e] at hlt;simp at hlt);have a0:=(hbel.cell (p:=⟨b1,o1+k*4+0,none⟩) hb1).trans (q1 k 0 hlt (by omega));have a1:=(hbel.cell (p:=⟨b1,o1+k*4+1,none⟩) hb1).trans (q1 k 1 hlt (by omega));have a2:=(hbel.cell (p:=⟨b1,o1+k*4+2,none⟩) hb1).trans (q1 k 2 hlt (by omega));have a3:=(hbel.cell (p:=⟨b1,o1+k*4+3,none⟩) hb1).trans (q1 k 3 hlt (by omega));have HB:=Hp hbel;have hz:=hbel.size;generalize X.tab.getD k Sl.zero=s at a0 a1 a2 a3 hst;obtain ⟨s0,s1,s2,s3⟩:=s;simp only [Sl.cells,I1,I2,Nat.add_zero] at a0 a1 a2 a3 hst;clear q1 hbel
   cases s1 with
   | true=>
    rw [if_pos rfl] at hst;have HS:=Hp hst;clear hst;go_wp2;go_roundw
    case rel=>exact ⟨k+1,by omega,by go_num,by rw [HS.out];go_num,HB.out.alloc hz _⟩
    case measure=>simp [intOf];omega
   | false=>
    rw [if_neg (by simp)] at hst;have HS:=Hp hst;clear hst;go_wp2;go_roundw
    case rel=>exact ⟨k+1,by omega,by go_num,by rw [HS.out];rfl,HB.out.alloc hz _⟩
    case measure=>simp [intOf];omega
  ·have hge:¬ (X.tab.length:Int)<(X.tab.length:Int):=by omega
   rw [HU.out];have x25:=ah hbel Y.out.2.2.1 hp;have x18:=ah hbel Y.out.2.1 hp;have HB:=Hp hbel;have hz:=hbel.size;clear hbel;go_wp2_with fail;go_loopw [6,39] (fun u i wr=>∃ k:Nat,k≤25∧i=.int .i64 k∧u=.int .i64 (EC X.lists k:Nat)∧Below w.heap.size w wr) (fun _ i _=>25 - (intOf i).toNat)
   case atStart=>exact ⟨0,I0 _,rfl,by simp [EC],HB.out⟩
   case round=>
    obtain ⟨k,hk,rfl,rfl,hbel⟩:=hrel;rcases (show k<25∨k=25 by omega) with hlt|rfl
    ·have hlt':(k:Int)<25:=by omega
     have k0:(0:Int)≤(k:Int):=by omega
     have hL25:=gM HX.out.gw;have hlt2:k<X.lists.length:=by omega
     have hst:=CZ hlt2;have hle:=lnN_le X.lists (k+1);have hfl:=td HX.out;obtain ⟨b1,o1,rfl,hb1,q1⟩:=PL.out (by intro e;have:=HV.out.1;rw [e] at this;simp at this;omega);have a0:=(hbel.cell (p:=⟨b1,o1+k*1+0,none⟩) hb1).trans (q1 k 0 (by rw [HV.out.1];exact hlt2) (by omega));have hrow:=(HV.out.2 k hlt2).1;obtain ⟨vv,hvv⟩:∃ vv,vv=VL.getD k undef:=⟨_,rfl⟩;obtain ⟨ll,hll⟩:∃ ll,ll=X.lists.getD k []:=⟨_,rfl⟩;rw [← hll] at hst hrow;rw [← hvv] at hrow a0;obtain ⟨av,cv,rfl,_⟩:=aq hrow;simp only [I1,Nat.add_zero,Nat.mul_one] at a0;have HS:=Hp hst;have HB:=Hp hbel;have hz:=hbel.size;have hsm:EC X.lists k+ll.length≤40:=by omega
     clear hst hle hfl hL25 hlt2 q1 hrow hvv hll hbel;go_wp2;go_roundw
     case rel=>exact ⟨k+1,by omega,by go_num,by rw [HS.out];go_num,HB.out⟩
     case measure=>simp [intOf];omega
    ·have hge:¬ ((25:Nat):Int)<25:=by omega
     rw [HN.out];have x18:=ah hbel Y.out.2.1 hp
     have hp1:p<wr.heap.size:=by have:=hbel.size;omega
     have HB:=Hp hbel;have hz:=hbel.size;clear hbel;go_wp2_with fail;go_loopw [9,72] (fun u i wr=>∃ k:Nat,k≤X.flows.length∧i=.int .i64 k∧u=.int .i64 (yE X.flows k)∧Below w.heap.size w wr) (fun _ i _=>X.flows.length - (intOf i).toNat)
     case atStart=>exact ⟨0,I0 _,rfl,rfl,HB.out⟩
     case round=>
      obtain ⟨k,hk,rfl,rfl,hbel⟩:=hrel;rcases (show k<X.flows.length∨k=X.flows.length by omega) with hlt|rfl
      ·have hlt':(k:Int)<(X.flows.length:Int):=by omega
       have k0:(0:Int)≤(k:Int):=by omega
       obtain ⟨b1,o1,rfl,hb1,q1⟩:=PF.out (by intro e;rw [e] at hlt;simp at hlt);have hbf:=Gr HX.out.gw hlt;have hlo:=Gs HX.out.gw hk;have hsu:=yD X.flows k;have hfm:=HX.out.gw.at_ hlt;have hff:=HX.out.gw.fl _ hfm;have hget:=HX.out.gw.get hfm;have hany:=tm_any HX.out hfm;have hr0:=hff.r0;have hr1:=hff.r1;have hst:=hff.st;obtain ⟨_,_,_,_,n1,n2,n3,n4,n5,n6⟩:=HX.out.gw.num hfm;have a0:=(hbel.cell (p:=⟨b1,o1+k*7+0,none⟩) hb1).trans (q1 k 0 hlt (by omega));have a1:=(hbel.cell (p:=⟨b1,o1+k*7+1,none⟩) hb1).trans (q1 k 1 hlt (by omega));have a2:=(hbel.cell (p:=⟨b1,o1+k*7+2,none⟩) hb1).trans (q1 k 2 hlt (by omega));have a3:=(hbel.cell (p:=⟨b1,o1+k*7+3,none⟩) hb1).trans (q1 k 3 hlt (by omega));have a4:=(hbel.cell (p:=⟨b1,o1+k*7+4,none⟩) hb1).trans (q1 k 4 hlt (by omega));have a5:=(hbel.cell (p:=⟨b1,o1+k*7+5,none⟩) hb1).trans (q1 k 5 hlt (by omega));have a6:=(hbel.cell (p:=⟨b1,o1+k*7+6,none⟩) hb1).trans (q1 k 6 hlt (by omega));obtain ⟨f,hf⟩:∃ f,f=X.flows.getD k Fl.zero:=⟨_,rfl⟩;rw [← hf] at a0 a1 a2 a3 a4 a5 a6 hbf hsu hget hany hr0 hr1 hst n1 n2 n3 n4 n5 n6;obtain ⟨f0,f1,f2,f3,f4,f5,f6⟩:=f;simp only [Fl.cells,I1,I2,Nat.add_zero] at a0 a1 a2 a3 a4 a5 a6 hbf hsu hget hany hr0 hr1 hst n1 n2 n3 n4 n5 n6;have HSu:=Hp hsu;have HGe:=Hp hget;have HAn:=Hp hany;have HSt:=Hp hst;have HBz:=Hp hbel;have hz:=hbel.size;have hp1:p<wr.heap.size:=by omega
       clear hsu hget hany hst hff hfm hf q1 hbel;go_wp2_with fail;refine aY _ (fun wb hwb=>?_)
       have bwb:Below w.heap.size w wb:=by rw [hwb];exact HBz.out.alloc hz _
       obtain ⟨bf,hbfe⟩:∃ bf,bf=wr.heap.size:=⟨_,rfl⟩
       have hbb:wb.heap[bf]?=some (.cells #[.int .i64 f0,.int .i64 f1,.int .i64 f2,.int .i64 f3,.bool f4,.int .i64 f5,.int .i64 f6] 72 (0,0)):=by rw [hwb];exact az _ hbfe
       have lbf:=lt_of_block hbb
       have hpb:p<wb.heap.size:=by rw [hwb];simp;omega
       have hbp:bf≠p:=by omega
       have hpn:bf≠p:=hbp;have e0:wb.cell? ⟨bf,0,none⟩=some (.int .i64 f0):=ae hbb 0;have e1:wb.cell? ⟨bf,1,none⟩=some (.int .i64 f1):=ae hbb 1;have x17:=ah bwb Y.out.1 hp;have HBb:=Hp (And.intro bwb hbb);rw [← hbfe];clear hwb hbfe bwb hbb a0 a1 a2 a3 a4 a5 a6 x18;have HTb:=Hp (au RT.out HBb.out.1);refine GZ (P:=?jP1) (F:=fun nb wz=>Below wb.heap.size wb wz∧wz.heap[nb]?=some (.cells #[.int .i64 f1,.bool true,.int .i64 f2,.int .i64 f3] 161 (0,0))∧wb.heap.size≤nb) (fun key=>?jm1) ?jr1
       case jm1=>
        refine Zr (fun w':World=>w'.cell? ⟨p,17,none⟩=some (.slice aT X.tab.length cT)∧w'.cell? ⟨bf,0,none⟩=some (.int .i64 f0)∧w'.cell? ⟨bf,1,none⟩=some (.int .i64 f1)) (fun hHeld=>?_);refine eO 0 ?_;refine df 4 ?_;refine Zt 6 ?_;refine Z2 7 11 (fun K hK=>?_) (fun K hK=>?_);(focus (go_simp;(go_at_call 77;refine (fW X.tab f0 f1 ⟨f1,true,f2,f3⟩ 0 _ _ (au HTb.out Zb) HGe.out).mono ?_;rintro e w2 ⟨rfl,hb2⟩;have hz2:=hb2.size;(try simp at hz2);(try (have bxb:=aj hb2 (cI wb _) (dJ wb _);have bx0:w2.cell? ⟨wb.heap.size,0,none⟩=some (.int .i64 0):=ae bxb 0;have bx1:w2.cell? ⟨wb.heap.size,1,none⟩=some (.bool false):=ae bxb 1;have bx2:w2.cell? ⟨wb.heap.size,2,none⟩=some (.int .i64 0):=ae bxb 2;have bx3:w2.cell? ⟨wb.heap.size,3,none⟩=some (.int .i64 0):=ae bxb 3;have bxf:∀ n,w2.frozen? ⟨wb.heap.size,n,none⟩=false:=ap bxb));(try dsimp only));(try go_wp2_with fail);refine Zk hK fun hHeld=>?_;clear hK K;refine df 8 ?_;refine Zt 10 ?_;refine Z1 11 (fun K hK=>?_);go_simp;refine Zk hK fun hHeld=>?_;clear hK K));rotate_left 1;(focus (go_simp;refine Zk hK fun hHeld=>?_;clear hK K;refine Z1 7 (fun K hK=>?_);go_simp;(go_at_call 77;refine (fW X.tab f0 f1 ⟨f1,true,f2,f3⟩ 0 _ _ (au HTb.out Zb) HGe.out).mono ?_;rintro e w2 ⟨rfl,hb2⟩;have hz2:=hb2.size;(try simp at hz2);(try (have bxb:=aj hb2 (cI wb _) (dJ wb _);have bx0:w2.cell? ⟨wb.heap.size,0,none⟩=some (.int .i64 0):=ae bxb 0;have bx1:w2.cell? ⟨wb.heap.size,1,none⟩=some (.bool false):=ae bxb 1;have bx2:w2.cell? ⟨wb.heap.size,2,none⟩=some (.int .i64 0):=ae bxb 2;have bx3:w2.cell? ⟨wb.heap.size,3,none⟩=some (.int .i64 0):=ae bxb 3;have bxf:∀ n,w2.frozen? ⟨wb.heap.size,n,none⟩=false:=ap bxb));(try dsimp only));(try go_wp2_with fail);refine Zk hK fun hHeld=>?_;clear hK K;refine df 8 ?_;refine Zt 10 ?_));rotate_left 1;(all_goals (refine Z1 12 (fun K hK=>?_);go_simp;refine Zk hK fun hHeld=>?_;clear hK K;refine Zt 13 ?_));(all_goals refine Zd ?_)
        ·refine aY _ (fun wz hwz=>?_)
         have hbz:Below wb.heap.size wb wz:=by rw [hwz];exact (Hv (Hr (Hq _ _)) (hb2.mono (by simp))).alloc (by omega) _
         obtain ⟨nb,hnb⟩:∃ nb,nb=w2.heap.size:=⟨_,rfl⟩;rw [← hnb];exact key nb wz ⟨hbz,by rw [hwz];exact az _ hnb,by omega⟩
        ·refine aY _ (fun wz hwz=>?_);have hba:Below wb.heap.size wb w2:=Hv (Hr ((Hq _ _).alloc (Hz _) _)) (hb2.mono (by simp));have hle:=Hz wb.heap.size
         have hbz:Below wb.heap.size wb wz:=by rw [hwz];exact (((hba.setCell hle _).setCell hle _).setCell hle _).setCell hle _
         obtain ⟨nb,hnb⟩:∃ nb,nb=wb.heap.size:=⟨_,rfl⟩;rw [← hnb];exact key nb wz ⟨hbz,by rw [hwz,hnb];exact aP (aP (aP (aP bxb _) _) _) _,by omega⟩
       case jr1=>
        rintro nb wz ⟨hbz,hnb,hnl⟩;have bzw:Below w.heap.size w wz:=HBb.out.1.trans (hbz.mono HBb.out.1.size);have hbf':=aj hbz HBb.out.2 lbf;have y0:wz.cell? ⟨bf,0,none⟩=some (.int .i64 f0):=ae hbf' 0;have y2:wz.cell? ⟨bf,2,none⟩=some (.int .i64 f2):=ae hbf' 2;have y3:wz.cell? ⟨bf,3,none⟩=some (.int .i64 f3):=ae hbf' 3;have y5:wz.cell? ⟨bf,5,none⟩=some (.int .i64 f5):=ae hbf' 5;have y6:wz.cell? ⟨bf,6,none⟩=some (.int .i64 f6):=ae hbf' 6;have s2:wz.cell? ⟨nb,2,none⟩=some (.int .i64 f2):=ae hnb 2;have s3:wz.cell? ⟨nb,3,none⟩=some (.int .i64 f3):=ae hnb 3;have x8:=ah bzw Y.out.2.2.2 hp;have lnb:=lt_of_block hnb;have lbz:=lt_of_block hbf'
        have hpz:p<wz.heap.size:=by have:=bzw.size;omega
        have hng:¬ f0≤yE X.flows k:=by omega
        have HZ:=Hp (And.intro bzw hbf');clear hbz hnb hnl bzw hbf' e0 e1 x17;go_wp2_with fail;go_quiet ((go_at_call 23;exact Calls.quiet_of_same ((lE _ _ _ _ hr0 hr1).mono (fun _ _ h=>⟨h.1,h.2.symm⟩))));go_wp2_with fail;refine eV _ (fun wc hwc=>?_)
        have bwc:Below wz.heap.size wz wc:=by rw [hwc];exact aJ (Hq _ _)
        have bww:=HZ.out.1.trans (bwc.mono HZ.out.1.size);have HC:=Hp (And.intro bww (aj bwc HZ.out.2 lbz));refine (dW (HK.out wc bww) f3 HX.out.gw.bk).mono ?_;rintro e w3 ⟨rfl,hb3⟩;have b3w:=HC.out.1.trans (hb3.mono HC.out.1.size);have hb3':=aj hb3 HC.out.2 (lt_of_block HC.out.2);have y6:w3.cell? ⟨bf,6,none⟩=some (.int .i64 f6):=ae hb3' 6;have x25:=ah b3w Y.out.2.2.1 hp;have l3:=lt_of_block hb3'
        have hp3:p<w3.heap.size:=by have:=b3w.size;omega
        have H3:=Hp b3w;obtain ⟨st,hst⟩:∃ st,st=gU X.lives f3:=⟨_,rfl⟩;have hst':=HSt.out;rw [← hst] at hst' ⊢;clear hwc bwc bww hb3 b3w hb3' hst y0 y2 y3 y5 s2 s3 x8 hng lnb lbz hpz;rcases hst' with rfl|rfl
        all_goals
         go_wp2_with fail
         refine eV _ (fun wd hwd=>?_)
         have bd:Below w3.heap.size w3 wd:=by rw [hwd];exact (Hq _ _).alloc (Hz _) _
         have hbt:wd.heap[w3.heap.size]?=some (.cells #[.int .i64 f6,.int .i64 f0] 176 (0,0)):=by rw [hwd];exact az _ rfl
         have bdw:=H3.out.trans (bd.mono H3.out.size)
         have t0:wd.cell? ⟨w3.heap.size,0,none⟩=some (.int .i64 f6):=ae hbt 0
         have t1:wd.cell? ⟨w3.heap.size,1,none⟩=some (.int .i64 f0):=ae hbt 1
         have lbt:=lt_of_block hbt
         have hVl:VL.length=25:=by rw [HV.out.1];exact gM HX.out.gw
         have hct:=DU 92 ⟨w3.heap.size,0,none⟩ (fun _ _=>rfl) (fun i=>decide ((⟨f6,f0⟩:Tm)∈X.lists.getD i [])) (.slice aL 25 cL) VL wd (au RL.out bdw) (by omega)
          (fun i hi w' hb'=>flows1 (VL.getD i undef) (X.lists.getD i []) ⟨f6,f0⟩ w3.heap.size w' (au (HV.out.2 i (by rw [← HV.out.1];exact hi)).1 (bdw.trans (hb'.mono bdw.size))) (ah hb' t0 lbt) (ah hb' t1 lbt)) (by rw [hVl];exact HAn.out)
         refine hct.mono ?_
         rintro e w4 ⟨rfl,hb4⟩
         have H4:=Hp (bdw.trans (hb4.mono bdw.size))
         clear hct hwd bd hbt bdw t0 t1 hb4 x25 y6
         go_wp2
         go_roundw
         case rel=>exact ⟨k+1,by omega,by go_num,by rw [HSu.out],H4.out⟩
         case measure=>simp [intOf];omega
      ·have hge:¬ (X.flows.length:Int)<(X.flows.length:Int):=by omega
       have HB:=Hp hbel;clear hbel;go_wp2
       all_goals first|(go_ret;exact ⟨rfl,HB.out⟩)|exact Zx
structure LvS (w w1:World) (L:List Lf) (k:Nat) (wr:World):Prop where
 be:Below w.heap.size w wr
 rg:∃ a c,wr.heap[w.heap.size]?=some (.cells #[.slice a (nk L k).length c] 47 (0,0))∧dd (fun b=>w.heap.size<b) wr 2 (.slice a (nk L k).length c) ((nk L k).map Sp.cells)
 kp:Kp (w.heap.size+1) w1 wr
theorem LvS.keep {w w1 wr wr':World} {L:List Lf} {k:Nat} (h:LvS w w1 L k wr) (hb:Below wr.heap.size wr wr'):LvS w w1 L k wr':=by
 obtain ⟨a,c,h1,h2⟩:=h.rg;exact ⟨h.be.trans (hb.mono h.be.size),⟨a,c,aj hb h1 (lt_of_block h1),bF h2 hb.size (fun b hb' _=>hb.block b hb')⟩,h.kp.trans (Kp.of_below hb)⟩
theorem LvS.step {w w1 wr wr':World} {L:List Lf} {k:Nat} (h:LvS w w1 L k wr) (e:nk L (k+1)=nk L k) (hb:Below wr.heap.size wr wr'):LvS w w1 L (k+1) wr':=by
 have:=h.keep hb;obtain ⟨a,c,h1,h2⟩:=this.rg;exact ⟨this.be,⟨a,c,by rw [e];exact h1,by rw [e];exact h2⟩,this.kp⟩
theorem LvS.new {w w1 wr wr':World} {L:List Lf} {k:Nat} {a:Option Addr} {c:Nat} (h:LvS w w1 L k wr) (hb:Below wr.heap.size wr wr') (r:aM wr.heap.size wr' 2 (.slice a (nk L (k+1)).length c) ((nk L (k+1)).map Sp.cells)) :
  LvS w w1 L (k+1) (wr'.setCell ⟨w.heap.size,0,none⟩ (.slice a (nk L (k+1)).length c)):=by
 obtain ⟨a',c',h1,h2⟩:=h.rg
 have hlt:=lt_of_block h1
 have hk:=(h.keep hb)
 obtain ⟨a2,c2,k1,_⟩:=hk.rg
 refine ⟨hk.be.setCell (Hz _) _,⟨a,c,aP k1 _,?_⟩,hk.kp.set (Nat.lt_succ_self _) _ _⟩
 exact bF (bQ (ep r) (fun b _ hb'=>(by omega:w.heap.size<b))) (by simp) (fun b _ hb'=>Hy _ _ _ _ (fun e:b=w.heap.size=>by omega))
theorem uZ {p:Nat} {w:World} {X:Wd} {V:Vs} (h:GR p w X V) (hm:WdMay X) :
  Calls Tryz.prog 48 #[.pointer (some ⟨p,0,none⟩)] w fun e w'=>e=.returned (.bool true)∧Below w.heap.size w w':=by
 have HX:=Hp hm
 have hp:=h.2.2.2.1
 have x17:=h.c 17 (v:=V.t) rfl
 have x19:=h.c 19 (v:=V.l) rfl
 have x21:=h.c 21 (v:=V.s) rfl
 have x16:=h.c 16 (v:=.int .i64 X.now) rfl
 obtain ⟨aT,cT,eT,_,_,_,pT⟩:=aK Sl.zero h.1.ta.1
 obtain ⟨aL,cL,eL,_,_,_,pL⟩:=aK Lf.zero h.1.li.1
 obtain ⟨aS,cS,eS,_⟩:=aq h.1.sp.1
 rw [eT] at x17
 rw [eL] at x19
 rw [eS] at x21
 have RT:=Hp (show aI w 4 (.slice aT X.tab.length cT) (X.tab.map Sl.cells) by have:=h.1.ta.1;rw [eT] at this;exact this)
 have RS:=Hp (show aI w 2 (.slice aS X.ring.length cS) (X.ring.map Sp.cells) by have:=h.1.sp.1;rw [eS] at this;exact this)
 obtain ⟨bT,oT,rfl,hbT,qT⟩:=pT (by intro e;have:=hm.gw.tb.1;rw [e] at this;simp at this)
 have QT:=Hp qT
 have PL:=Hp pL
 have Y:=Hp (And.intro x19 (And.intro x21 x16))
 have n12:X.lives.length≤12:=hm.gw.bk.1
 clear h hm eT eL eS pT pL qT
 go_enter Tryz.func48,Tryz.ntmps48
 go_wp2_with fail
 refine eV _ (fun wa hwa=>?_)
 have ba:Below w.heap.size w wa:=by rw [hwa];exact (Hq _ _).alloc (Hz _) _
 have ka:wa.heap[w.heap.size]?=some (.cells #[.slice none 0 0] 47 (0,0)):=by rw [hwa];exact az _ rfl
 have za:wa.heap.size=w.heap.size+1:=by rw [hwa];simp
 refine (jM bT oT cT X.tab wa (by omega) HX.out.gw.tb (au RT.out ba) (fun i j hi hj=>(ba.cell (p:=⟨bT,_,none⟩) hbT).trans (QT.out i j hi hj))).mono ?_
 rintro e w1 ⟨vc,rfl,rc,hb1⟩
 have b1:=ba.trans (hb1.mono ba.size)
 have k1:=aj hb1 ka (lt_of_block ka)
 obtain ⟨vca,vcc,rfl,_,_,_,pC⟩:=aK (0:Int) rc.1
 rw [gP] at *
 obtain ⟨bC,oC,rfl,hbC,qC⟩:=pC (by intro e;have:=gP X.tab X.tab.length;rw [e] at this;simp at this)
 have hbC2:w.heap.size<bC:=by have:=rc.2 _ _ _ rfl;simp only at this;omega
 have QC:=Hp qC
 have x19:=ah b1 Y.out.1 hp
 have hp1:p<w1.heap.size:=by have:=b1.size;omega
 have S0:=Hp (show LvS w w1 X.lives 0 w1 from ⟨b1,⟨none,0,by rw [Cn];exact k1,by rw [Cn];exact ⟨iv _ _,fun b o n c e _=>by cases e⟩⟩,Kp.refl _ _⟩)
 clear hwa ba ka za rc hb1 b1 k1 pC qC x16 x21 x17
 go_wp2_with fail
 go_loopw [25] (fun i wr=>∃ k:Nat,k≤X.lives.length∧i=.int .i64 k∧LvS w w1 X.lives k wr) (fun i _=>X.lives.length - (intOf i).toNat)
 case atStart=>exact ⟨0,I0 _,rfl,S0.out⟩
 case round=>
  obtain ⟨k,hk,rfl,hs⟩:=hrel;have HS:=Hp hs;have hbel:=hs.be;have hz:=hbel.size;have hpr:p<wr.heap.size:=by omega
  rcases (show k<X.lives.length∨k=X.lives.length by omega) with hlt|rfl
  ·have hlt':(k:Int)<(X.lives.length:Int):=by omega
   have k0:(0:Int)≤(k:Int):=by omega
   obtain ⟨b1,o1,rfl,hb1,q1⟩:=PL.out (by intro e;rw [e] at hlt;simp at hlt)
   have hm:X.lives.getD k Lf.zero∈X.lives:=by rw [aO hlt];exact Ib hlt
   have hbk:=eP HX.out.gw.bk hm;have hsi:=HX.out.gw.si _ hm;have hun:=HX.out.un _ hm;have hcp:=Gj HX.out.gw hm;have had:=rl_add HX.out.gw.bk hlt;have hke:=Fi HX.out.gw.bk hlt;have hrl:=jp (Cm HX.out.gw.bk k);have a0:=(hbel.cell (p:=⟨b1,o1+k*6+0,none⟩) hb1).trans (q1 k 0 hlt (by omega));have a1:=(hbel.cell (p:=⟨b1,o1+k*6+1,none⟩) hb1).trans (q1 k 1 hlt (by omega));have a2:=(hbel.cell (p:=⟨b1,o1+k*6+2,none⟩) hb1).trans (q1 k 2 hlt (by omega));have a3:=(hbel.cell (p:=⟨b1,o1+k*6+3,none⟩) hb1).trans (q1 k 3 hlt (by omega));have a4:=(hbel.cell (p:=⟨b1,o1+k*6+4,none⟩) hb1).trans (q1 k 4 hlt (by omega));have a5:=(hbel.cell (p:=⟨b1,o1+k*6+5,none⟩) hb1).trans (q1 k 5 hlt (by omega));have x16:=ah hbel Y.out.2.2 hp;obtain ⟨x,hx⟩:∃ x,x=X.lives.getD k Lf.zero:=⟨_,rfl⟩;rw [← hx] at a0 a1 a2 a3 a4 a5 hbk hsi hun hcp had hke;obtain ⟨x0,x1,x2,x3,x4,x5⟩:=x;simp only [Lf.cells,I1,I2,Nat.add_zero] at a0 a1 a2 a3 a4 a5 hbk hsi hun hcp had hke;obtain ⟨h0,h1,h2,h3,h4,h5,h6,h7,h8,h9,hst⟩:=hbk;simp only at h0 h1 h2 h3 hst;have HCp:=Hp hcp;have HAd:=Hp had;have HKe:=Hp hke;have HUn:=Hp hun;have nsi:¬ X.now<x3:=by omega
   have hst4:x1=1∨x1=2∨x1=3∨x1=4:=by omega
   clear hm hx hcp had hke hun hst q1 h4 h5 h6 h7 h8 h9 hs;obtain ⟨n0,rfl⟩:=Id h0;obtain ⟨ra,rc,hr1,hr2⟩:=HS.out.rg;have xr:wr.cell? ⟨w.heap.size,0,none⟩=some (.slice ra (nk X.lives k).length rc):=ae hr1 0;have lr:=lt_of_block hr1;have HR1:=Hp (And.intro hr1 hr2);have n0':n0<12:=by omega
   have hkp:=HS.out.kp
   have cC:wr.cell? ⟨bC,oC+n0,none⟩=some (.int .i64 ((gY X.tab X.tab.length).getD n0 0)):=by
    have:=QC.out n0 0 n0' (by omega);simp only [Nat.mul_one,Nat.add_zero,I1] at this;rw [← this];exact I4 (a:=⟨bC,oC+n0,none⟩) (hkp.2 bC (by omega) hbC)
   obtain ⟨cv,hcv⟩:∃ cv,cv=(gY X.tab X.tab.length).getD n0 0:=⟨_,rfl⟩;rw [← hcv] at cC;have HCv:=Hp hcv;have n0i:(n0:Int)<12:=by omega
   have n0j:(0:Int)≤(n0:Int):=by omega
   have lC:bC<wr.heap.size:=by have:=hkp.1;omega
   clear hr1 hr2 hkp hcv;rcases hst4 with rfl|rfl|rfl|rfl
   ·exact Q40
   ·go_wp2_with fail;go_quiet (fail);go_wp2_with fail;refine eV _ (fun wc hwc=>?_)
    have bwc:Below wr.heap.size wr wc:=by rw [hwc];exact (by repeat (first|exact Hq _ _|refine aJ ?_|refine Hx ?_ (by first|omega|(simp;done)|(simp;omega)) _))
    refine (pZ _ (nk X.lives k) wc (n0:Int) x2 (nk X.lives (k+1)) 0 (au HR1.out.2.1 bwc) (by omega) (HAd.out (by first|rfl|trivial))).mono ?_;rintro e w2 ⟨v2,rfl,R2,hb2⟩;obtain ⟨a2,c2,rfl,_⟩:=aq R2.1;have bw2:=bwc.trans (hb2.mono bwc.size);have hk2:=aj bw2 HR1.out.1 lr;have xr:w2.cell? ⟨w.heap.size,0,none⟩=some (.slice ra (nk X.lives k).length rc):=ae hk2 0;have xf:∀ n,w2.frozen? ⟨w.heap.size,n,none⟩=false:=fun n=>ap hk2 n;have lr2:=lt_of_block hk2;have hsz:=bwc.size;have HN:=Hp (HS.out.new bw2 ⟨R2.1,fun a n c e=>Il hsz (R2.2 a n c e)⟩);clear hwc bwc hb2 bw2 hk2 R2 hsz cC;go_wp2;go_roundw
    case rel=>exact ⟨k+1,by omega,by go_num,HN.out⟩
    case measure=>simp [intOf];omega
   ·have nun:¬ x4≤X.now:=by have:=HUn.out rfl;omega
    have ncv:¬ cv=0:=by have:=HCp.out rfl;rw [I9] at this;rw [HCv.out];exact this
    have nunD:decide (x4≤X.now)=false:=by simpa using nun
    have ncvD:decide (cv=0)=false:=by simpa using ncv
    have ncvB:(cv == 0)=false:=by simpa using ncv
    go_wp2_with fail;go_quiet (fail);exact Q40
   ·exact Q40
  ·have hge:¬ (X.lives.length:Int)<(X.lives.length:Int):=by omega
   obtain ⟨ra,rc,hr1,hr2⟩:=hs.rg;have xr:wr.cell? ⟨w.heap.size,0,none⟩=some (.slice ra (nk X.lives X.lives.length).length rc):=ae hr1 0;have lr:=lt_of_block hr1;have x21:=ah hbel Y.out.2.1 hp;have HQ:=Hp (And.intro hr2.1 (au RS.out hbel));have HG:=Hp (rl_all HX.out.gw);have HB:=Hp hbel;clear hs hr1 hr2 hbel;go_wp2_with fail;go_quiet ((go_at_call 95;exact Calls.quiet_of (zF _ _ (nk X.lives X.lives.length) X.ring _ (dB HQ.out.1 _) (dB HQ.out.2 _) true (Or.inl ⟨HG.out,rfl⟩))));go_wp2
   all_goals first|(go_ret;exact ⟨rfl,(by repeat (first|exact HB.out|refine aJ ?_))⟩)|exact Zx
theorem GR_box {p:Nat} {w:World} {X:Wd} {V:Vs} {vo:Value} {T:TypeId} (h:WA w X V) (hb:w.heap[p]?=some (.cells (ds X V++[vo]).toArray T (0,0))):GR p w X V:=by
 refine ⟨h.ro,h.fl,h.he,lt_of_block hb,fun i v hv=>?_⟩
 have hi:i<26:=by
  exact Q133
 rw [ae hb i,I3,Ix (by rw [js];exact hi),hv]
theorem Aq {w:World} {X:Wd} {V:Vs} (h:WA w X V) (hm:WdMay X):Calls Tryz.prog 28 #[.agg (ds X V).toArray] w fun e w'=>e=.returned (.bool true)∧Below w.heap.size w w':=by
 have HW:=Hp h;have HX:=Hp hm
 obtain ⟨aH,cH,eH⟩:∃ a c,V.h=.slice a (eD X V).length c:=by obtain ⟨a,c,e,_⟩:=h.he;exact ⟨a,c,e⟩
 rw [ej h.ro.ml,hm.gw.hl] at eH;obtain ⟨aT,cT,eT,_⟩:=aq h.ro.ta.1;have RH:=Hp (show aI w 4 (.slice aH 12 cH) (eD X V) by have:=h.he;rw [eH] at this;exact this);obtain ⟨bh,oh,hbh,hbhl,RHc⟩:∃ bh oh,aH=some ⟨bh,oh,none⟩∧bh<w.heap.size∧∀ i j,i<12→j<4→w.cell? ⟨bh,oh+i*4+j,none⟩=(uD (V.m.getD i undef) (X.health.getD i Ht.zero))[j]?:=DA RH.out HW.out.ro.ml HX.out.gw.hl;subst hbh;have HRc:=Hp RHc;have eA:(ds X V).toArray=#[.int .i64 (X.tab.length:Int),.int .i64 X.cf.num,.int .i64 X.cf.den,.int .i64 X.cf.tries,.int .i64 X.cf.warm,.int .i64 X.cf.drain,.int .i64 X.cf.idle,.int .i64 X.cf.connect,.int .i64 X.cf.retries,.int .i64 X.cf.most,.int .i64 X.cf.bn,.int .i64 X.cf.bd,.int .i64 X.cf.bb,.int .i64 X.cf.ww,.int .i64 X.cf.wf,.int .i64 X.cf.wh,.int .i64 X.now,.slice aT X.tab.length cT,V.f,V.l,V.r,V.s,.slice (some ⟨bh,oh,none⟩) 12 cH,.int .i64 X.tok,.int .i64 X.now,V.w]:=by rw [wdA,eH,eT,hm.gw.tl,hm.gw.wn]
 have HA:=Hp eA;rw [eA]
 have hcf:jr ⟨(X.tab.length:Int),X.cf.num,X.cf.den,X.cf.tries,X.cf.warm,X.cf.drain,X.cf.idle,X.cf.connect,X.cf.retries,X.cf.most,X.cf.bn,X.cf.bd,X.cf.bb,X.cf.ww,X.cf.wf,X.cf.wh⟩:=by rw [hm.gw.tl];exact hm.gw.cf
 have HCf:=Hp hcf;have eT2:=Hp eT;have n0:=hm.gw.n0;have n1:=hm.gw.n1;clear h hm RHc eA hcf eH eT;go_enter Tryz.func28,Tryz.ntmps28;go_wp2_with fail;refine eV _ (fun W0 hW0=>?_)
 have b0:Below w.heap.size w W0:=by rw [hW0];exact (Hq _ _).alloc (Hz _) _
 have k0:W0.heap[w.heap.size]?=some (.cells #[.int .i64 (X.tab.length:Int),.int .i64 X.cf.num,.int .i64 X.cf.den,.int .i64 X.cf.tries,.int .i64 X.cf.warm,.int .i64 X.cf.drain,.int .i64 X.cf.idle,.int .i64 X.cf.connect,.int .i64 X.cf.retries,.int .i64 X.cf.most,.int .i64 X.cf.bn,.int .i64 X.cf.bd,.int .i64 X.cf.bb,.int .i64 X.cf.ww,.int .i64 X.cf.wf,.int .i64 X.cf.wh,.int .i64 X.now,.slice aT X.tab.length cT,V.f,V.l,V.r,V.s,.slice (some ⟨bh,oh,none⟩) 12 cH,.int .i64 X.tok,.int .i64 X.now,V.w] 55 (0,0)):=by rw [hW0];exact az _ rfl
 clear hW0;refine (kh _ _ _ _ _ _ _ _ _ _ _ _ _ _ _ _ W0 HCf.out).mono ?_;rintro e w1 ⟨rfl,hb1⟩;have b1:=b0.trans (hb1.mono b0.size);have k1:=aj hb1 k0 (lt_of_block k0);have x0:=ae k1 0;have x16:=ae k1 16;have x17:=ae k1 17;simp only [I3,I2,I1] at x0 x16 x17;have l1:=lt_of_block k1;have B1:=Hp (And.intro b1 k1);clear b0 k0 hb1 b1 k1;go_wp2_with (go_at_call 23;refine (lE _ _ _ _ n0 n1).mono ?_;rintro e w2 ⟨rfl,rfl⟩);refine (fc _ X.tab _ (by have:=(HW.out.below B1.out.1).ro.ta.1;have e:=eT2.out;rw [e] at this;exact this) HX.out.gw.tb).mono ?_;rintro e w2 ⟨rfl,hb2⟩;have b1:=B1.out.1;have k1:=B1.out.2;have b2:=b1.trans (hb2.mono b1.size);have k2:=aj hb2 k1 (lt_of_block k1);have x0:=ae k2 0;have x16:=ae k2 16;have x17:=ae k2 17;have x19:=ae k2 19;have x20:=ae k2 20;have x22:=ae k2 22;simp only [I3,I2,I1] at x0 x16 x17 x19 x20 x22;have l2:=lt_of_block k2;have B2:=Hp (And.intro b2 k2);clear hb2 b1 k1 b2 k2;go_wp2_with fail;refine (kg _ _ X.lives X.reqs 0 _ (HW.out.below B2.out.1).ro.li.1 (HW.out.below B2.out.1).ro.re.1 (Or.inl ⟨HX.out.gw.bk,rfl⟩)).mono ?_;rintro e w3 ⟨rfl,hb3⟩;have b2:=B2.out.1;have k2:=B2.out.2;have b3:=b2.trans (hb3.mono b2.size);have k3:=aj hb3 k2 (lt_of_block k2);have x10:=ae k3 10;have x11:=ae k3 11;have x12:=ae k3 12;have x16:=ae k3 16;have x22:=ae k3 22;have x23:=ae k3 23;have x24:=ae k3 24;have x25:=ae k3 25;simp only [I3,I2,I1] at x10 x11 x12 x16 x22 x23 x24 x25;have l3:=lt_of_block k3;have B3:=Hp (And.intro b3 k3);have hbd:=HX.out.gw.cf.2.1;clear hb3 b2 k2 b3 k3;go_wp2_with fail;refine (jw _ _ _ _ _ hbd ⟨HX.out.gw.t0,HX.out.gw.t1⟩).mono ?_;rintro e w4 ⟨rfl,hb4⟩;have b3:=B3.out.1;have k3:=B3.out.2;have b4:=b3.trans (hb4.mono b3.size);have k4:=aj hb4 k3 (lt_of_block k3);have x16:=ae k4 16;have x24:=ae k4 24;have x25:=ae k4 25;simp only [I3,I2,I1] at x16 x24 x25;have l4:=lt_of_block k4;have B4:=Hp (And.intro b4 k4);clear hb4 b3 k3 b4 k4 hbd;go_wp2_with fail;refine dt _ (fun wc hwc=>?_)
 have bwc:Below w4.heap.size w4 wc:=by rw [hwc];exact (Hq _ _).alloc (Hz _) _
 have b5:=B4.out.1.trans (bwc.mono B4.out.1.size);have k5:=aj bwc B4.out.2 (lt_of_block B4.out.2);refine (cW V.w X.now X.lists (-1) wc (HW.out.below b5).ro.wh.at_ (by have:=gM HX.out.gw;omega) (by have:=td HX.out;have:=HX.out.gw.len;omega) 0 [] 8 (Or.inr (Or.inl ⟨HX.out.gw.wh,fun t ht=>by have:=(HX.out.gw.wh.tm t ht).2.2.2.1;omega,rfl,rfl,rfl⟩))).mono ?_;rintro e w6 ⟨v6,rfl,R6,hb6⟩;obtain ⟨a6,c6,rfl⟩:=bI R6.at_;have b6:=b5.trans (hb6.mono b5.size);have k6:=aj hb6 k5 (lt_of_block k5);have x22:=ae k6 22;simp only [I3,I2,I1] at x22;have l6:=lt_of_block k6;have B6:=Hp (And.intro b6 k6);clear hwc bwc b5 k5 hb6 R6 b6 k6;go_wp2_with fail;refine pa _ (fun wl hwl=>?_)
 have bl:=show Below w6.heap.size w6 wl by rw [hwl];exact (Hq _ _).alloc (Hz _) _
 have S0:=Hp (And.intro (B6.out.1.trans (bl.mono B6.out.1.size)) (aj bl B6.out.2 (lt_of_block B6.out.2)));clear hwl bl x22 l6;go_loopw [81] (fun i wr=>∃ k:Nat,k≤12∧i=.int .i64 k∧Below w.heap.size w wr∧wr.heap[w.heap.size]?=some (.cells #[.int .i64 (X.tab.length:Int),.int .i64 X.cf.num,.int .i64 X.cf.den,.int .i64 X.cf.tries,.int .i64 X.cf.warm,.int .i64 X.cf.drain,.int .i64 X.cf.idle,.int .i64 X.cf.connect,.int .i64 X.cf.retries,.int .i64 X.cf.most,.int .i64 X.cf.bn,.int .i64 X.cf.bd,.int .i64 X.cf.bb,.int .i64 X.cf.ww,.int .i64 X.cf.wf,.int .i64 X.cf.wh,.int .i64 X.now,.slice aT X.tab.length cT,V.f,V.l,V.r,V.s,.slice (some ⟨bh,oh,none⟩) 12 cH,.int .i64 X.tok,.int .i64 X.now,V.w] 55 (0,0))) (fun i _=>12 - (intOf i).toNat)
 case atStart=>exact ⟨0,I0 _,rfl,S0.out.1,S0.out.2⟩
 case round=>
  obtain ⟨k,hk,rfl,hbel,hk0⟩:=hrel;have hz:=hbel.size;have l0:=lt_of_block hk0;have HB:=Hp (And.intro hbel hk0);rcases (show k<12∨k=12 by omega) with hlt|rfl
  ·have hlt':(k:Int)<12:=by omega
   have k0':(0:Int)≤(k:Int):=by omega
   have hmr:=(HW.out.below hbel).ro.mr k (by rw [HX.out.gw.hl];exact hlt);have hht:=HX.out.gw.ht k hlt;have hho:=HX.out.gw.ho k hlt;have q0:=(hbel.cell (p:=⟨bh,oh+k*4+0,none⟩) hbhl).trans (HRc.out k 0 hlt (by omega));have q1:=(hbel.cell (p:=⟨bh,oh+k*4+1,none⟩) hbhl).trans (HRc.out k 1 hlt (by omega));have q2:=(hbel.cell (p:=⟨bh,oh+k*4+2,none⟩) hbhl).trans (HRc.out k 2 hlt (by omega));have q3:=(hbel.cell (p:=⟨bh,oh+k*4+3,none⟩) hbhl).trans (HRc.out k 3 hlt (by omega));simp only [uD,I1,I2,Nat.add_zero] at q0 q1 q2 q3;obtain ⟨H,hH⟩:∃ H,H=X.health.getD k Ht.zero:=⟨_,rfl⟩;obtain ⟨mv,hmv⟩:∃ mv,mv=V.m.getD k undef:=⟨_,rfl⟩;rw [← hH] at hmr hht hho q1 q2 q3;rw [← hmv] at hmr q0;have hba:=zJ X.cf H X.now hht;obtain ⟨came,hba⟩:=hba;have hM:=(fC hht).2.2.2.1;have hwm:=(fC hht).1.2.1;obtain ⟨M2,hM2⟩:∃ M2,M2=fI X.now H:=⟨_,rfl⟩;rw [← hM2] at hba;obtain ⟨am,cm,rfl,_⟩:=fq hmr.1;have HMr:=Hp hmr.1;have HBa:=Hp hba;obtain ⟨M_,o_,u_,t_⟩:=H;obtain ⟨N_,o2,u2',t2⟩:=M2;have HHo:=Hp hho;have x13:=ae hk0 13;have x14:=ae hk0 14;have x15:=ae hk0 15;have x16:=ae hk0 16;simp only [I3,I2,I1] at x13 x14 x15 x16;simp only at q1 q2 q3 hM;clear hmr hht hho hba hM2 hH hmv hbel hk0;go_wp2_with fail;refine dt _ (fun wc hwc=>?_)
   have bwc:Below wr.heap.size wr wc:=by rw [hwc];exact (Hq _ _).alloc (Hz _) _
   have hh:wc.heap[wr.heap.size]?=some (.cells #[.slice am M_.length cm,.bool o_,.int .i64 u_,.int .i64 t_] 148 (0,0)):=by rw [hwc];exact az _ rfl
   refine (qc _ _ _ M_ o_ u_ t_ X.now N_ o2 u2' t2 came 0 _ wc (au HMr.out bwc) (by omega) HBa.out).mono ?_;rintro e w5 ⟨v5,rfl,R5,hb5⟩;obtain ⟨a5,c5,rfl,_⟩:=fq R5.1;have bw5:=bwc.trans (hb5.mono bwc.size);have h5:=aj hb5 hh (lt_of_block hh);have p1:w5.cell? ⟨wr.heap.size,1,none⟩=some (.bool o_):=ae h5 1;have p2:w5.cell? ⟨wr.heap.size,2,none⟩=some (.int .i64 u_):=ae h5 2;have hk5:=aj bw5 HB.out.2 l0;have x16:=ae hk5 16;simp only [I3,I2,I1] at x16;have l5:=lt_of_block h5;have l5':=lt_of_block hk5;have H5:=Hp (And.intro (HB.out.1.trans (bw5.mono HB.out.1.size)) hk5);clear hwc bwc hh R5 hb5 bw5 h5 hk5 q0 q1 q2 q3 x13 x14 x15
   cases o_ with
   | false=>
    exact Q104
   | true=>
    have hu:decide (u_≤X.now)=false:=by have:=HHo.out rfl;simp;omega
    have hu':¬ u_≤X.now:=by simpa using hu
    exact Q104
  ·have hge:¬ ((12:Nat):Int)<12:=by omega
   obtain ⟨AW,hAW⟩:∃ AW,AW=(ds X V).toArray:=⟨_,rfl⟩;obtain ⟨AZ,hAZ⟩:∃ AZ,AZ=(ds X V++[Value.slice none 0 0]).toArray:=⟨_,rfl⟩;have HK:=Hp (show wr.heap[w.heap.size]?=some (.cells AW 55 (0,0)) by rw [hAW,HA.out];exact hk0);have HI:=Hp (show (Tryz.prog.info? 55).map (·.size)=some AW.size by rw [hAW];kernel_rfl);have HAZ:=Hp hAZ;have HAW:=Hp hAW
   have hsz:AW.size=26:=by rw [hAW];rfl
   have HWr:=Hp (HW.out.below hbel);clear hbel hk0 hAW hAZ;go_wp2_with (refine Iu rfl 55 (.tmp 1) rfl w.heap.size rfl 55 AW (0,0) _ HK.out Tryz.underlying55 rfl HI.out ?_);refine dt _ (fun wc hwc=>?_)
   have hwc':wc=wr.alloc (.cells AZ 119 (0,0)):=by
    rw [hwc,HAZ.out,HAW.out]
    kernel_rfl
   have bwc:Below wr.heap.size wr wc:=by rw [hwc'];exact (Hq _ _).alloc (Hz _) _
   have hg:=GR_box (p:=wr.heap.size) (T:=119) (vo:=.slice none 0 0) (HWr.out.below bwc) (by rw [hwc',HAZ.out];exact az _ rfl);have HG:=Hp (And.intro hg (HB.out.1.trans (bwc.mono HB.out.1.size)));clear hwc hwc' bwc hg;refine (vd HG.out.1 HX.out).mono ?_;rintro e w7 ⟨rfl,hb7⟩;have HG7:=Hp (And.intro (fM HG.out.1 hb7) (HG.out.2.trans (hb7.mono HG.out.2.size)));clear hb7;go_wp2_with fail;refine (uZ HG7.out.1 HX.out).mono ?_;rintro e w8 ⟨rfl,hb8⟩;have HG8:=Hp (HG7.out.2.trans (hb8.mono HG7.out.2.size));clear hb8;go_wp2
   all_goals first|(go_ret;exact ⟨rfl,HG8.out⟩)|exact Zx
theorem nG {F:List Fl} {i:Nat} (hi:i<F.length) {f:Fl} (hf:F.getD i Fl.zero=f) (j:Nat) (hj:j<7) (u:Value) (f':Fl) (hu:(Fl.cells f).set j u=Fl.cells f'):((F.set i f').map Fl.cells).flatten=(F.map Fl.cells).flatten.set (i*7+j) u:=by
 rw [fP u hj (iK F) (by simpa using hi),List.map_set,← hu]
 congr 3
 rw [← hf];simp [List.getD,hi]
theorem qJ {F:List Fl} {i:Nat} (hi:i<F.length) (f:Fl):(F.set i f).getD i Fl.zero=f:=by rw [cN hi,if_pos rfl]
theorem Bn {X:Wd} {i:Nat} {f:Fl} (hf:X.flows.getD i Fl.zero=f) (k y:Int):(gO X i k y).1=(bZ (jn X i (eJ X.tab f)) f.backend).1:=by subst hf;rfl
theorem Bm {X:Wd} {i:Nat} {f:Fl} (hf:X.flows.getD i Fl.zero=f) (k y:Int) (O:List Out):O++(gO X i k y).2=O++[⟨k,f.slot,f.gen,f.backend,0,0,y⟩]++(bZ (jn X i (eJ X.tab f)) f.backend).2:=by subst hf;simp [gO]
theorem DL {X:Wd} {i:Nat} {f:Fl} (hf:X.flows.getD i Fl.zero=f) (why:Int) (h:f.retries=X.cf.retries∨X.tok<X.cf.bd):eU X i why=gO (bU X f.backend.toNat true) i 6 why:=by subst hf;unfold eU;simp only;rw [if_pos h]
theorem fail_b {X:Wd} {i:Nat} {f:Fl} (hf:X.flows.getD i Fl.zero=f) (why:Int) (h:¬ (f.retries=X.cf.retries∨X.tok<X.cf.bd)) (h2:(dA (bU X f.backend.toNat true) f.key.toNat f.slot).2≠0):eU X i why=gO (bU X f.backend.toNat true) i 6 4:=by subst hf;unfold eU;simp only;rw [if_neg h,if_pos h2]
theorem fail_c {X:Wd} {i:Nat} {f:Fl} (hf:X.flows.getD i Fl.zero=f) (why:Int) (h:¬ (f.retries=X.cf.retries∨X.tok<X.cf.bd)) (h2:(dA (bU X f.backend.toNat true) f.key.toNat f.slot).2=0) :
  eU X i why=((if f.backend=(dA (bU X f.backend.toNat true) f.key.toNat f.slot).1 then (iI (bU X f.backend.toNat true) i (dA (bU X f.backend.toNat true) f.key.toNat f.slot).1,[]) else bZ (iI (bU X f.backend.toNat true) i (dA (bU X f.backend.toNat true) f.key.toNat f.slot).1) f.backend).1,
   ⟨5,f.slot,f.gen,(dA (bU X f.backend.toNat true) f.key.toNat f.slot).1,0,0,0⟩ :: (if f.backend=(dA (bU X f.backend.toNat true) f.key.toNat f.slot).1 then (iI (bU X f.backend.toNat true) i (dA (bU X f.backend.toNat true) f.key.toNat f.slot).1,[]) else bZ (iI (bU X f.backend.toNat true) i (dA (bU X f.backend.toNat true) f.key.toNat f.slot).1) f.backend).2):=by
 subst hf;unfold eU;simp only;rw [if_neg h,if_neg (fun e=>e h2)]
theorem mm {B p:Nat} {w:World} {X:Wd} {O:List Out} {S:List Nat} {V:Vs} {vo:Value} (h:G B p w X O S V vo) (hm:GwMay X) (i:Nat) (hi:i<X.flows.length) (why:Int) (hO:O.length≤800000) :
  Calls Tryz.prog 75 #[.pointer (some ⟨p,0,none⟩),.int .i64 (i:Int),.int .i64 why] w (GTo B p w S (eU X i why).1 (O++(eU X i why).2) (fun _=>True) (.tuple #[])):=by
 obtain ⟨f,hf⟩:∃ f,X.flows.getD i Fl.zero=f:=⟨_,rfl⟩
 have hfm:f∈X.flows:=by rw [← hf,aO hi];exact Ib hi
 have hnum:=hm.num hfm
 have hfit:=hm.fl f hfm
 have h40:=hm.len
 have A0:=GA.start h
 obtain ⟨g,cfl,ev⟩:=A0.shape (by intro e;rw [e] at hi;simp at hi)
 obtain ⟨_,hg1,hg2,hg3,hg4,hg5⟩:=A0.flow ev hi hf
 have HEf:=Hp ev
 have x18:=A0.c 18 (v:=V.f) rfl
 rw [ev] at x18
 have HX:=Hp hm
 have HFm:=Hp hfm
 have HFt:=Hp hfit
 have HF:=Hp hf
 obtain ⟨s,es,hs,hsl,n1,n2,n3,n4,n5,n6⟩:=hnum
 have HSl:=Hp hsl
 have r0:=hfit.r0
 have r1:=hfit.r1
 have hr20:X.cf.retries≤20:=by have:=hm.cf.1.2.2;omega
 have ER:Hid (eU X i why=eU X i why):=rfl
 obtain ⟨f0,f1,f2,f3,f4,f5,f6⟩:=f
 simp only at es n1 n2 n3 n4 n5 n6 r0 r1
 subst es
 obtain ⟨bk,rfl⟩:=Id n5
 obtain ⟨ky,rfl⟩:=Id n3
 have hbk:bk<12:=by omega
 have hky:ky<4294967296:=by omega
 have d3:w.cell? ⟨g,i*7+3,none⟩=some (.int .i64 (bk:Int)):=hg5 3 (by omega)
 have hp:=h.plt
 have i0:(0:Int)≤(i:Int):=by omega
 have i1:(i:Int)<(X.flows.length:Int):=by omega
 have HA:=Hp A0
 have HG:=Hp h
 have HN:=Hp hm.note
 clear h hm hf hfm hfit hsl A0 ev hg5
 go_enter Tryz.func75,Tryz.ntmps75
 go_wp2_with (go_at_call 78;refine (xO HG.out bk hbk true HN.out).mono ?_;rintro e w1 hc1;obtain ⟨S1,V1,vo1,rfl,A1,hq1,hz1,hb1⟩:=HA.out.call hc1;clear hc1)
 obtain ⟨X1,hX1⟩:∃ X1,X1=bU X bk true:=⟨_,rfl⟩
 have HX1:=Hp hX1
 have hm1:GwMay X1:=by rw [hX1];exact HX.out.noted hbk true
 have ef1:X1.flows=X.flows:=by rw [hX1];rfl
 have ec1:X1.cf=X.cf:=by rw [hX1];rfl
 have et1:X1.tok=X.tok:=by rw [hX1];rfl
 rw [← hX1] at A1
 have hf1:X1.flows.getD i Fl.zero=⟨(s:Int),f1,(ky:Int),(bk:Int),f4,f5,f6⟩:=by rw [ef1];exact HF.out
 have hfm1:(⟨(s:Int),f1,(ky:Int),(bk:Int),f4,f5,f6⟩:Fl)∈X1.flows:=by rw [ef1];exact HFm.out
 have hi1:i<X1.flows.length:=by rw [ef1];exact hi
 have ev1:V1.f=.slice (some ⟨g,0,none⟩) X.flows.length cfl:=by rw [show V1.f=V.f from hq1];exact HEf.out
 obtain ⟨_,k1,k2,k3,k4,k5⟩:=A1.flow ev1 hi1 hf1
 have d0:w1.cell? ⟨g,i*7+0,none⟩=some (.int .i64 (s:Int)):=k5 0 (by omega)
 have d1:w1.cell? ⟨g,i*7+1,none⟩=some (.int .i64 f1):=k5 1 (by omega)
 have d2:w1.cell? ⟨g,i*7+2,none⟩=some (.int .i64 (ky:Int)):=k5 2 (by omega)
 have d3:w1.cell? ⟨g,i*7+3,none⟩=some (.int .i64 (bk:Int)):=k5 3 (by omega)
 have d5:w1.cell? ⟨g,i*7+5,none⟩=some (.int .i64 f5):=k5 5 (by omega)
 have d6:w1.cell? ⟨g,i*7+6,none⟩=some (.int .i64 f6):=k5 6 (by omega)
 rw [Nat.add_zero] at d0
 have x8:w1.cell? ⟨p,8,none⟩=some (.int .i64 X.cf.retries):=by have:=A1.c 8 (v:=.int .i64 X1.cf.retries) rfl;rw [ec1] at this;exact this
 have x10:w1.cell? ⟨p,10,none⟩=some (.int .i64 X.cf.bn):=by have:=A1.c 10 (v:=.int .i64 X1.cf.bn) rfl;rw [ec1] at this;exact this
 have x11:w1.cell? ⟨p,11,none⟩=some (.int .i64 X.cf.bd):=by have:=A1.c 11 (v:=.int .i64 X1.cf.bd) rfl;rw [ec1] at this;exact this
 have x12:w1.cell? ⟨p,12,none⟩=some (.int .i64 X.cf.bb):=by have:=A1.c 12 (v:=.int .i64 X1.cf.bb) rfl;rw [ec1] at this;exact this
 have x7:w1.cell? ⟨p,7,none⟩=some (.int .i64 X.cf.connect):=by have:=A1.c 7 (v:=.int .i64 X1.cf.connect) rfl;rw [ec1] at this;exact this
 have x23:w1.cell? ⟨p,23,none⟩=some (.int .i64 X.tok):=by have:=A1.c 23 (v:=.int .i64 X1.tok) rfl;rw [et1] at this;exact this
 have hbud:=HX.out.cf.2.1
 have ht01:0≤X.tok∧X.tok≤X.cf.bb*X.cf.bd:=⟨HX.out.t0,HX.out.t1⟩
 have HBu:=Hp hbud
 have HT0:=Hp ht01
 have HA1:=Hp A1
 have HM1:=Hp hm1
 have HF1:=Hp hf1
 have HFm1:=Hp hfm1
 have HEv1:=Hp ev1
 have hp1:p<w1.heap.size:=A1.plt
 have HEf1:=Hp ef1
 have HEc1:=Hp ec1
 have HEt1:=Hp et1
 clear A1 hm1 hf1 hfm1 ev1 k5 ef1 ec1 et1 hX1 hbud ht01 hq1 hb1 x18
 by_cases hsp:X.tok<X.cf.bd
 ·skip
  refine Zr (fun w':World=>w'.cell? ⟨p,10,none⟩=some (.int .i64 X.cf.bn)∧w'.cell? ⟨p,11,none⟩=some (.int .i64 X.cf.bd)∧w'.cell? ⟨p,12,none⟩=some (.int .i64 X.cf.bb)∧w'.cell? ⟨p,23,none⟩=some (.int .i64 X.tok)) (fun hHeld=>?_);refine eo 0 ?_;refine df 8 ?_;refine Zt 10 ?_;refine Z2 11 15 (fun K hK=>?_) (fun K hK=>?_);(focus (go_simp;(go_at_call 123;refine (jL _ _ _ _ _ HBu.out HT0.out hsp).mono ?_;rintro e w2 ⟨rfl,hb2⟩;have hz2:=hb2.size;(try simp at hz2);(try (have bxb:=aj hb2 (cI w1 _) (dJ w1 _);have bx0:w2.cell? ⟨w1.heap.size,0,none⟩=some (.int .i64 0):=ae bxb 0;have bxf:∀ n,w2.frozen? ⟨w1.heap.size,n,none⟩=false:=ap bxb));(try dsimp only));(try go_wp2_with fail);refine Zk hK fun hHeld=>?_;clear hK K;refine df 12 ?_;refine Zt 14 ?_;refine Z1 15 (fun K hK=>?_);go_simp;refine Zk hK fun hHeld=>?_;clear hK K));rotate_left 1;(focus (go_simp;refine Zk hK fun hHeld=>?_;clear hK K;refine Z1 11 (fun K hK=>?_);go_simp;(go_at_call 123;refine (jL _ _ _ _ _ HBu.out HT0.out hsp).mono ?_;rintro e w2 ⟨rfl,hb2⟩;have hz2:=hb2.size;(try simp at hz2);(try (have bxb:=aj hb2 (cI w1 _) (dJ w1 _);have bx0:w2.cell? ⟨w1.heap.size,0,none⟩=some (.int .i64 0):=ae bxb 0;have bxf:∀ n,w2.frozen? ⟨w1.heap.size,n,none⟩=false:=ap bxb));(try dsimp only));(try go_wp2_with fail);refine Zk hK fun hHeld=>?_;clear hK K;refine df 12 ?_;refine Zt 14 ?_));rotate_left 1;(all_goals (refine Z1 16 (fun K hK=>?_);go_simp;refine Zk hK fun hHeld=>?_;clear hK K;refine Zt 17 ?_));(all_goals refine Zd ?_)
  ·skip
   refine aY _ (fun wz hwz=>?_)
   have hbz:Below w1.heap.size w1 wz:=by rw [hwz];exact (Hv (Hr (Hq _ _)) (hb2.mono (by simp))).alloc (by omega) _
   obtain ⟨nb,hnb⟩:∃ nb,nb=w2.heap.size:=⟨_,rfl⟩
   have hnz:wz.heap[nb]?=some (.cells #[.int .i64 0] 50 (0,0)):=by rw [hwz];exact az _ hnb
   have hge:w1.heap.size≤nb:=by omega
   rw [← hnb];clear hwz hnb hb2 hz2;exact Q68
  ·skip
   refine aY _ (fun wz hwz=>?_);have hba:Below w1.heap.size w1 w2:=Hv (Hr ((Hq _ _).alloc (Hz _) _)) (hb2.mono (by simp))
   have hbz:Below w1.heap.size w1 wz:=by rw [hwz];exact hba.setCell (Hz _) _
   obtain ⟨nb,hnb⟩:∃ nb,nb=w1.heap.size:=⟨_,rfl⟩
   have hnz:wz.heap[nb]?=some (.cells #[.int .i64 0] 50 (0,0)):=by rw [hwz,hnb];exact aP (j:=0) bxb (.int .i64 0)
   have hge:w1.heap.size≤nb:=by omega
   clear bx0 bxf bxb;rw [← hnb];clear hwz hnb hb2 hba hz2;exact Q68
 ·have hsp:X.cf.bd≤X.tok:=by omega
  refine Zr (fun w':World=>w'.cell? ⟨p,10,none⟩=some (.int .i64 X.cf.bn)∧w'.cell? ⟨p,11,none⟩=some (.int .i64 X.cf.bd)∧w'.cell? ⟨p,12,none⟩=some (.int .i64 X.cf.bb)∧w'.cell? ⟨p,23,none⟩=some (.int .i64 X.tok)) (fun hHeld=>?_);refine eo 0 ?_;refine df 8 ?_;refine Zt 10 ?_;refine Z2 11 15 (fun K hK=>?_) (fun K hK=>?_);(focus (go_simp;(go_at_call 123;refine (lc _ _ _ _ _ HBu.out HT0.out hsp).mono ?_;rintro e w2 ⟨rfl,hb2⟩;have hz2:=hb2.size;(try simp at hz2);(try (have bxb:=aj hb2 (cI w1 _) (dJ w1 _);have bx0:w2.cell? ⟨w1.heap.size,0,none⟩=some (.int .i64 0):=ae bxb 0;have bxf:∀ n,w2.frozen? ⟨w1.heap.size,n,none⟩=false:=ap bxb));(try dsimp only));(try go_wp2_with fail);refine Zk hK fun hHeld=>?_;clear hK K;refine df 12 ?_;refine Zt 14 ?_;refine Z1 15 (fun K hK=>?_);go_simp;refine Zk hK fun hHeld=>?_;clear hK K));rotate_left 1;(focus (go_simp;refine Zk hK fun hHeld=>?_;clear hK K;refine Z1 11 (fun K hK=>?_);go_simp;(go_at_call 123;refine (lc _ _ _ _ _ HBu.out HT0.out hsp).mono ?_;rintro e w2 ⟨rfl,hb2⟩;have hz2:=hb2.size;(try simp at hz2);(try (have bxb:=aj hb2 (cI w1 _) (dJ w1 _);have bx0:w2.cell? ⟨w1.heap.size,0,none⟩=some (.int .i64 0):=ae bxb 0;have bxf:∀ n,w2.frozen? ⟨w1.heap.size,n,none⟩=false:=ap bxb));(try dsimp only));(try go_wp2_with fail);refine Zk hK fun hHeld=>?_;clear hK K;refine df 12 ?_;refine Zt 14 ?_));rotate_left 1;(all_goals (refine Z1 16 (fun K hK=>?_);go_simp;refine Zk hK fun hHeld=>?_;clear hK K;refine Zt 17 ?_));(all_goals refine Zd ?_)
  ·skip
   refine aY _ (fun wz hwz=>?_)
   have hbz:Below w1.heap.size w1 wz:=by rw [hwz];exact (Hv (Hr (Hq _ _)) (hb2.mono (by simp))).alloc (by omega) _
   obtain ⟨nb,hnb⟩:∃ nb,nb=w2.heap.size:=⟨_,rfl⟩
   have hnz:wz.heap[nb]?=some (.cells #[.int .i64 (X.tok - X.cf.bd)] 50 (0,0)):=by rw [hwz];exact az _ hnb
   have hge:w1.heap.size≤nb:=by omega
   rw [← hnb];clear hwz hnb hb2 hz2;exact Q4
  ·skip
   refine aY _ (fun wz hwz=>?_);have hba:Below w1.heap.size w1 w2:=Hv (Hr ((Hq _ _).alloc (Hz _) _)) (hb2.mono (by simp))
   have hbz:Below w1.heap.size w1 wz:=by rw [hwz];exact hba.setCell (Hz _) _
   obtain ⟨nb,hnb⟩:∃ nb,nb=w1.heap.size:=⟨_,rfl⟩
   have hnz:wz.heap[nb]?=some (.cells #[.int .i64 (X.tok - X.cf.bd)] 50 (0,0)):=by rw [hwz,hnb];exact aP (j:=0) bxb (.int .i64 (X.tok - X.cf.bd))
   have hge:w1.heap.size≤nb:=by omega
   clear bx0 bxf bxb;rw [← hnb];clear hwz hnb hb2 hba hz2;exact Q4
end
end Go.Proofs.YtneailjecbfljaaGreatDoor
