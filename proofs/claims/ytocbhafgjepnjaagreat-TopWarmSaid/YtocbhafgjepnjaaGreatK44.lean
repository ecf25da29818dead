/- Texts of the row's proof. Conditions: none. -/
import Derived.Test.YtocbhafgjepnjaaGreatK41
namespace Go.Proofs.YtocbhafgjepnjaaGreat
set_option maxRecDepth 100000
set_option maxHeartbeats 8000000
section
open Go.RowKit
theorem Hj {p:Nat} {w:World} {X:Wd} {V:Vs} {T:TypeId} (h:WA w X V) (hb:w.heap[p]?=some (.cells (cQ X V).toArray T (0,0))):GR p w X V:=by
 refine ⟨h.ro,h.fl,h.he,lt_of_block hb,fun i v hv=>?_⟩;rw [aa hb i,Io,hv]
theorem GR.lv {p:Nat} {w:World} {X:Wd} {V:Vs} (h:GR p w X V):∃ al cl,w.cell? ⟨p,19,none⟩=some (.slice al X.lives.length cl)∧(X.lives.length≠0→∃ bl ol,al=some ⟨bl,ol,none⟩∧bl<w.heap.size∧∀ k j,k<X.lives.length→j<6→w.cell? ⟨bl,ol+k*6+j,none⟩=(X.lives.getD k Lf.zero).cells[j]?):=by
 obtain ⟨al,cl,el,_⟩:=aj h.1.li.1;refine ⟨al,cl,by rw [← el];exact h.c 19 rfl,fun hne=>?_⟩;obtain ⟨_,_,e0,_,_,_,pt⟩:=aJ Lf.zero h.1.li.1;rw [el] at e0;exact Q48
theorem GR.hh {p:Nat} {w:World} {X:Wd} {V:Vs} (h:GR p w X V) (h12:X.health.length=12):∃ bh oh ch,w.cell? ⟨p,22,none⟩=some (.slice (some ⟨bh,oh,none⟩) 12 ch)∧bh<w.heap.size∧∀ i j,i<12→j<4→w.cell? ⟨bh,oh+i*4+j,none⟩=(rD (V.m.getD i undef) (X.health.getD i Ht.zero))[j]?:=by
 obtain ⟨a,c,e,_,_,_,q⟩:=h.2.2.1;have hl:=dD h.1.ml;rw [h12] at hl;obtain ⟨b,o,rfl,hb,hq⟩:=q (by intro e;rw [e] at hl;simp at hl);rw [hl] at e;exact ⟨b,o,c,by rw [← e];exact h.c 22 rfl,hb,fun i j hi hj=>by rw [hq i j (by omega) hj,il h.1.ml (by rw [h12];exact hi)]⟩
theorem Cq {L:List Lf} {b:Int} {x:Lf} (h:cW L b=some x):gp L b=x.state:=by unfold gp;rw [h];rfl
theorem mZ {α:Type} {L:List α} {k:Nat} {d:α} {q:α→Prop} (hk:k<L.length) (h:∀ x∈L.take k,q x) (hx:q (L.getD k d)):∀ x∈L.take (k+1),q x:=by
 intro x hm;rw [Ir hk] at hm;rcases List.mem_append.1 hm with hm|hm
 ·exact h x hm
 ·rw [List.mem_singleton] at hm;rw [aK hk] at hx;rw [hm];exact hx
theorem lf_hit {L:List Lf} {R:List Rq} (h:bF L R) {k:Nat} (hk:k<L.length) {b:Int} (hb:(L.getD k Lf.zero).backend=b):cW L b=some (L.getD k Lf.zero):=by
 rw [← hb];refine gI (bZ h) ?_;rw [aK hk];exact Iw _
def l9 (X:Wd) (b:Int):Int:=match cW X.lives b with
 | some x=>if x.state=2 then jn X x else 0
 | none=>0
theorem Ce {X:Wd} {b:Int} (h:∀ x∈X.lives,x.backend=b→l9 X b=0):l9 X b=0:=by
 cases hl:cW X.lives b with
 | none=>unfold l9;rw [hl]
 | some x=>exact h x (dj hl).1 (dj hl).2
theorem Fh {X:Wd} (h:bF X.lives X.reqs) {k:Nat} (hk:k<X.lives.length) {b:Int} (hb:(X.lives.getD k Lf.zero).backend=b):l9 X b=if (X.lives.getD k Lf.zero).state=2 then jn X (X.lives.getD k Lf.zero) else 0:=by
 unfold l9;rw [lf_hit h hk hb]
theorem j5 {w:World} {X:Wd} {V:Vs} (h:WA w X V) (hm:GwMay X) (b:Nat) (hb12:b<12):Calls Tryz.prog 19 #[.agg (cQ X V).toArray,.int .i64 (b:Int)] w fun e w'=>e=.returned (.int .i64 (l9 X b))∧Below w.heap.size w w':=by
 obtain ⟨AW,hAW⟩:∃ AW,AW=(cQ X V).toArray:=⟨_,rfl⟩;obtain ⟨R,hR⟩:∃ R,R=l9 X b:=⟨_,rfl⟩;rw [← hAW,← hR];have HR:=Ib hR;have HA:=Ib hAW;have HW:=Ib h;have HM:=Ib hm;have hl12:=hm.bk.1;have r5:0≤X.cf.warm:=hm.cf.1.1.1;have r6:X.cf.warm≤500:=hm.cf.1.1.2.1;have n1:=hm.n1;clear hR hAW h hm;go_enter Tryz.func19,Tryz.ntmps19;go_wp2_with fail;refine aW _ (fun wb hwb=>?_)
 have bwb:Below w.heap.size w wb:=by rw [hwb];exact (Ic _ _).alloc (Ij _) _
 have hbk:wb.heap[w.heap.size]?=some (.cells (cQ X V).toArray 54 (0,0)):=by rw [hwb,← HA.out];exact au _ rfl
 have hg:=Hj (HW.out.below bwb) hbk;obtain ⟨al,cl,x19,hq⟩:=hg.lv;obtain ⟨bh,oh,ch,x22,hbh,hqh⟩:=hg.hh HM.out.hl;have x16:=hg.c 16 (v:=.int .i64 X.now) rfl;have x4:=hg.c 4 (v:=.int .i64 X.cf.warm) rfl;have ao:=hqh b 1 hb12 (by omega);have hp:=hg.2.2.2.1;obtain ⟨t,ht⟩:∃ t,t=(X.health.getD b Ht.zero).out:=⟨_,rfl⟩;simp only [rD,Il,Im,← ht] at ao;have HT:=Ib ht;have HQ:=Ib hq;have HB:=Ib bwb;have B19:=Ib x19;have B22:=Ib x22;have B16:=Ib x16;have B4:=Ib x4;have BO:=Ib ao;have HBH:=Ib hbh;have HP:=Ib hp;have HZ:=Ib bwb.size;clear hwb bwb hbk hq hg x22 x16 x4 ao hqh ht hbh;go_loopw [5] (fun i wr=>∃ k:Nat,k≤X.lives.length∧i=.int .i64 k∧Below wb.heap.size wb wr∧∀ x∈X.lives.take k,x.backend=(b:Int)→l9 X b=0) (fun i _=>X.lives.length - (intOf i).toNat)
 case atStart=>exact ⟨0,Ik _,rfl,Ic _ _,fun x hx=>absurd hx (by simp)⟩
 case round=>
  obtain ⟨k,hk,rfl,hbr,hs⟩:=hrel;have HS:=Ib hs;have HBr:=Ib hbr;have x19:=ae hbr B19.out HP.out;have hzr:=hbr.size;have hpr:w.heap.size<wr.heap.size:=Nat.lt_of_lt_of_le HP.out hzr;clear hs;rcases (show k<X.lives.length∨k=X.lives.length by omega) with hlt|rfl
  ·have hlt':(k:Int)<(X.lives.length:Int):=by omega
   have k0:(0:Int)≤(k:Int):=by omega
   have x22:=ae hbr B22.out HP.out;have x16:=ae hbr B16.out HP.out;have x4:=ae hbr B4.out HP.out;have ao:=ae hbr BO.out HBH.out;have hbhr:bh<wr.heap.size:=Nat.lt_of_lt_of_le HBH.out hzr;obtain ⟨bl,ol,rfl,hbl,q⟩:=HQ.out (by omega);have a0:=ae hbr (q k 0 hlt (by omega)) hbl;have a1:=ae hbr (q k 1 hlt (by omega)) hbl;have a2:=ae hbr (q k 2 hlt (by omega)) hbl;have a3:=ae hbr (q k 3 hlt (by omega)) hbl;have a4:=ae hbr (q k 4 hlt (by omega)) hbl;have a5:=ae hbr (q k 5 hlt (by omega)) hbl;have hlm:=dz HM.out.bk (x:=X.lives.getD k Lf.zero) (by rw [aK hlt];exact Iw _);have hsi:=HM.out.si (X.lives.getD k Lf.zero) (by rw [aK hlt];exact Iw _);have hhit:=Fh HM.out.bk hlt (b:=(b:Int));obtain ⟨x,hx⟩:∃ x,x=X.lives.getD k Lf.zero:=⟨_,rfl⟩;rw [← hx] at a0 a1 a2 a3 a4 a5 hlm hsi hhit;obtain ⟨x0,x1,x2,x3,x4',x5⟩:=x;simp only [Nat.add_zero] at a0 a1 a2 a3 a4 a5;simp only at hsi hhit;have r1:1≤x2:=hlm.2.2.1;have r2:x2≤8:=hlm.2.2.2.1;have r3:0≤x3:=hlm.2.2.2.2.1;have HX:=Ib hx;have HH:=Ib hhit;have hWr:Below w.heap.size w wr:=HB.out.trans (hbr.mono HZ.out);have hzw:w.heap.size≤wb.heap.size:=HZ.out;clear hx q hhit hlm;by_cases hx0:x0=(b:Int)
   ·by_cases hx1:x1=2
    ·cases t with
     | true=>
      go_wp2;go_roundw
      case rel=>exact ⟨k+1,by omega,by go_num,Zb,mZ hlt HS.out (by rw [← HX.out];intro _;rw [HH.out hx0,if_pos hx1];unfold jn iT;simp only;rw [hx0,Iu,← HT.out];rfl)⟩
      case measure=>simp [intOf];omega
     | false=>
      obtain rfl:R=eo x2 (X.now - x3) X.cf.warm:=by rw [HR.out,HH.out hx0,if_pos hx1];unfold jn iT;simp only;rw [hx0,Iu,← HT.out];rfl
      go_wp2_with (go_at_call 34;refine (fI _ _ _ _ _ r1 r2 r5 r6 r3 (by omega) hsi (by omega)).mono ?_;rintro e w' ⟨rfl,rfl⟩);go_ret;exact ⟨rfl,Zb⟩
    ·go_wp2;go_roundw
     case rel=>exact ⟨k+1,by omega,by go_num,Zb,mZ hlt HS.out (by rw [← HX.out];intro _;rw [HH.out hx0,if_neg hx1])⟩
     case measure=>simp [intOf];omega
   ·go_wp2;go_roundw
    case rel=>exact ⟨k+1,by omega,by go_num,Zb,mZ hlt HS.out (by rw [← HX.out];intro g;exact absurd g hx0)⟩
    case measure=>simp [intOf];omega
  ·have hge:¬ (X.lives.length:Int)<(X.lives.length:Int):=by omega
   obtain rfl:R=0:=by rw [HR.out];exact Ce (by have:=HS.out;rwa [List.take_length] at this)
   go_wp2;go_ret;exact ⟨rfl,HB.out.trans (HBr.out.mono HZ.out)⟩
theorem sX {X:Wd} (h:GwMay X) (b:Int):0≤l9 X b∧l9 X b≤8:=by
 unfold l9
 cases hl:cW X.lives b with
 | none=>simp
 | some x=>
  have hm:=dz h.bk (dj hl).1;have hs:=h.si x (dj hl).1;have w0:0≤X.cf.warm:=h.cf.1.1.1;have r1:=hm.2.2.1;have r2:=hm.2.2.2.1;simp only
  split
  ·unfold jn
   split
   ·simp
   ·unfold eo
    split
    ·omega
    ·have:x.weight*(X.now - x.since) / X.cf.warm≤x.weight:=by
      exact Q148
     omega
  ·simp
def rh (X:Wd) (k:Nat):Int:=((List.range k).map fun b:Nat=>l9 X (b:Nat)).sum
theorem rO (X:Wd) (k:Nat):rh X (k+1)=rh X k+l9 X (k:Nat):=by unfold rh;rw [List.range_succ,IH,List.sum_append];simp
theorem sZ {X:Wd} (h:GwMay X):∀ k:Nat,0≤rh X k∧rh X k≤8*(k:Int)
 | 0=>by simp [rh]
 | k+1=>by
  have h1:=sZ h k;have h2:=sX h (k:Nat);rw [rO];omega
def Ak (X:Wd):Int:=rh X 12
theorem xM {w:World} {X:Wd} {V:Vs} (h:WA w X V) (hm:GwMay X):Calls Tryz.prog 18 #[.agg (cQ X V).toArray] w fun e w'=>e=.returned (.int .i64 (Ak X))∧Below w.heap.size w w':=by
 obtain ⟨AW,hAW⟩:∃ AW,AW=(cQ X V).toArray:=⟨_,rfl⟩;rw [← hAW];have HA:=Ib hAW;have HW:=Ib h;have HM:=Ib hm;have HI:=Ib (show (Tryz.prog.info? 54).map (·.size)=some AW.size by rw [hAW];kernel_rfl);clear hAW h hm;go_enter Tryz.func18,Tryz.ntmps18;go_wp2_with fail;refine aW _ (fun wb hwb=>?_)
 have bwb:Below w.heap.size w wb:=by rw [hwb];exact (Ic _ _).alloc (Ij _) _
 have hbk:wb.heap[w.heap.size]?=some (.cells AW 54 (0,0)):=by rw [hwb];exact au _ rfl
 have HK:=Ib hbk;have HB:=Ib bwb;clear hwb bwb hbk;go_loopw [3,4] (fun n i wr=>∃ k:Nat,k≤12∧i=.int .i64 k∧n=.int .i64 (rh X k)∧Below wb.heap.size wb wr) (fun _ i _=>12 - (intOf i).toNat)
 case atStart=>exact ⟨0,Ik _,rfl,rfl,Ic _ _⟩
 case round=>
  obtain ⟨k,hk,rfl,rfl,hbr⟩:=hrel;have hsc:=rO X k;have hb0:=sZ HM.out k;have hb1:=sZ HM.out (k+1);obtain ⟨n,hn⟩:∃ n,n=rh X k:=⟨_,rfl⟩;obtain ⟨x,hx⟩:∃ x,x=l9 X (k:Nat):=⟨_,rfl⟩;rw [← hn,← hx] at hsc;rw [← hn] at hb0;rw [hsc] at hb1;rw [← hn];have HX:=Ib hx;have HS:=Ib hsc;have HN:=Ib hn;have HBr:=Ib hbr;have HKr:=Ib (ai hbr HK.out (lt_of_block HK.out));have hzb:=HB.out.size;have hzr:=hbr.size;clear hn hx hsc hbr;rcases (show k<12∨k=12 by omega) with hlt|rfl
  ·have hlt':(k:Int)<12:=by omega
   have hwr:IntKind.i64.wrap (n+x)=n+x:=IL _ (by omega)
   have hcall:Calls Tryz.prog 19 #[.agg AW,.int .i64 (k:Int)] wr (fun e w'=>e=.returned (.int .i64 x)∧Below wr.heap.size wr w'):=by rw [HA.out,HX.out];exact j5 ((HW.out.below HB.out).below HBr.out) HM.out k hlt
   have HC:=Ib hcall;clear hcall;go_wp2_with (first|(refine t7 rfl 54 (.tmp 1) rfl w.heap.size rfl 54 AW (0,0) _ HKr.out Tryz.underlying54 rfl HI.out ?_)|(go_at_call 19;refine HC.out.mono ?_;rintro e w1 ⟨rfl,hb1⟩));go_roundw
   case rel=>exact ⟨k+1,by omega,by go_num,by rw [HS.out],HBr.out.trans (hb1.mono hzr)⟩
   case measure=>simp [intOf];omega
  ·have hge:¬ ((12:Nat):Int)<12:=by omega
   go_wp2;go_ret;exact ⟨by rw [HN.out];rfl,HB.out.trans (HBr.out.mono hzb)⟩
end
end Go.Proofs.YtocbhafgjepnjaaGreat
