/- Texts of the row's proof. Conditions: none. -/
import Derived.Test.YtocbhafgjepnjaaGreatK07
import Derived.Test.YtocbhafgjepnjaaGreatK43
import Derived.Test.YtocbhafgjepnjaaGreatATpA1
namespace Go.Proofs.YtocbhafgjepnjaaGreat
set_option maxRecDepth 100000
set_option maxHeartbeats 8000000
open Go.RowKit
theorem walk_TopTold (v0 v1:Value) (W:World) (o0:Is_Setup W v0) (o1:Is_sl_Deed W v1) :Calls Tryz.prog 4 #[v0,v1] W fun e w'=>e=.returned (.bool true)∧Below W.heap.size W w':=by
 obtain ⟨s,rfl,hs⟩:=o0
 obtain ⟨L,hr,hd,_⟩:=o1
 obtain ⟨av,cv,rfl,_⟩:=aj hr
 have hcf:=pa s
 have hat:=jD hcf L (most:=60) (by omega)
 have hpl:∀ w',Below W.heap.size W w'→Calls Tryz.prog 13 #[.agg (Su.cells s).toArray,.slice av L.length cv,.int .i64 ((60:Nat):Int)] w' (pf w' (yC s) L 60):=fun w' hb=>kc s hs L hd _ (aq hr hb) 60 (by omega)
 obtain ⟨c,hc⟩:∃ c,c=yC s:=⟨_,rfl⟩
 rw [← hc] at hpl hcf hat
 obtain ⟨SA,hSA⟩:∃ SA,SA=(Su.cells s).toArray:=⟨_,rfl⟩
 rw [← hSA] at hpl ⊢
 have HSI:=Ib (show (Tryz.prog.info? 24).map (·.size)=some SA.size by rw [hSA];show _=some 16;kernel_rfl)
 have HPl:=Ib hpl
 have HF:=Ib hcf
 have HAt:=Ib hat
 have HK:=Ib (show (W.alloc (.cells SA 24 (0,0))).heap[W.heap.size]?=some (.cells SA 24 (0,0)) from au _ rfl)
 have HB0:=Ib (show Below W.heap.size W (W.alloc (.cells SA 24 (0,0))) from (Ic _ _).alloc (Ij _) _)
 clear hs hd hr hcf hc hSA hat hpl
 go_enter Tryz.func4,Tryz.ntmps4
 go_wp2_with (first|(refine t7 rfl 24 (.tmp 2) rfl W.heap.size rfl 24 SA (0,0) _ HK.out Tryz.underlying24 rfl HSI.out ?_)|(go_at_call 13;refine (HPl.out _ HB0.out).mono ?_;rintro e w1 ⟨p,VL,MS,vs,vg,rfl,hpg,hb1⟩;have hw1:=HB0.out.trans (hb1.mono HB0.out.size);have HW1:=Ib hw1;have HPg:=Ib hpg;clear hb1 hpg hw1))
 obtain ⟨P,hP⟩:∃ P,P=fW (di c) L 60:=⟨_,rfl⟩
 have h3:3≤(outsA P).length:=by rw [hP];exact three_play _ _ _
 rw [← hP] at HPg HAt
 have htd:=told_all HAt.out.ok
 have hsl:P.steps.length≤2000:=by have h1:=HAt.out.len;simp at h1;omega
 have hol:(outsA P).length≤P.steps.length*160:=outs_le HAt.out.ok P.steps.length (Ij _)
 have hct:Calls Tryz.prog 14 #[.pointer (some ⟨p,0,none⟩)] w1 (OutsPost w1 P):=prog_outputs HPg.out HAt.out.ok hsl
 clear hP
 unfold OutsPost at hct
 change Calls Tryz.prog 14 #[.pointer (some ⟨p,0,none⟩)] w1 (fun e w'=>∃ v,e=.returned v∧aM w1.heap.size w' 7 v ((outsA P).map Out.cells)∧Below w1.heap.size w1 w') at hct
 obtain ⟨O,hO⟩:∃ O,O=outsA P:=⟨_,rfl⟩
 rw [← hO] at hct h3 htd hol
 have h320:O.length≤320000:=by omega
 clear hO hol hsl
 refine hct.mono ?_
 rintro e w2 ⟨v,rfl,hrow,hb2⟩
 obtain ⟨a,cp,rfl,_,_,_,pt⟩:=aJ Out.zero hrow.1
 obtain ⟨bo,oo,rfl,hbo,q⟩:=pt (by intro e;rw [e] at h3;simp at h3)
 have HW2:=Ib (HW1.out.trans (hb2.mono HW1.out.size))
 have HQ:=Ib q
 have HBo:=Ib hbo
 have HTd:=Ib htd
 have H3:=Ib h3
 have h3':(3:Int)≤(O.length:Int):=by omega
 clear hct htd hrow pt q hbo h3 hb2
 go_wp2
 go_loopw [8] (fun i wr=>∃ k:Nat,k≤O.length∧i=.int .i64 k∧Below w2.heap.size w2 wr) (fun i _=>O.length - (intOf i).toNat)
 case atStart=>exact ⟨0,Ik _,rfl,Ic _ _⟩
 case round=>
  obtain ⟨k,hk,rfl,hbr⟩:=hrel
  have HBr:=Ib hbr
  clear hbr
  rcases (show k<O.length∨k=O.length by omega) with hlt|rfl
  ·have hlt':(k:Int)<(O.length:Int):=by omega
   have k0:(0:Int)≤(k:Int):=by omega
   have a0:=ae HBr.out (HQ.out k 0 hlt (by omega)) HBo.out
   have a1:=ae HBr.out (HQ.out k 1 hlt (by omega)) HBo.out
   have a2:=ae HBr.out (HQ.out k 2 hlt (by omega)) HBo.out
   have a3:=ae HBr.out (HQ.out k 3 hlt (by omega)) HBo.out
   have a4:=ae HBr.out (HQ.out k 4 hlt (by omega)) HBo.out
   have a5:=ae HBr.out (HQ.out k 5 hlt (by omega)) HBo.out
   have a6:=ae HBr.out (HQ.out k 6 hlt (by omega)) HBo.out
   have ht:=HTd.out (O.getD k Out.zero) (by rw [aK hlt];exact Iw _)
   obtain ⟨x,hx⟩:∃ x,x=O.getD k Out.zero:=⟨_,rfl⟩
   rw [← hx] at a0 a1 a2 a3 a4 a5 a6 ht
   clear hx
   obtain ⟨x0,x1,x2,x3,x4,x5,x6⟩:=x
   simp only [Nat.add_zero] at a0 a1 a2 a3 a4 a5 a6
   have Ht:=Ib ht
   clear ht
   go_upto_region 7 with fail
   refine aW _ (fun w3 hw3=>?_)
   have hb3:Below wr.heap.size wr w3:=by rw [hw3];exact Zb
   have hk3:w3.heap[wr.heap.size]?=some (.cells #[.int .i64 x0,.int .i64 x1,.int .i64 x2,.int .i64 x3,.int .i64 x4,.int .i64 x5,.int .i64 x6] 67 (0,0)):=by rw [hw3];exact au _ rfl
   have HB3:=Ib hb3
   have z0:=aa hk3 0
   have z1:=aa hk3 1
   have z2:=aa hk3 2
   have z3:=aa hk3 3
   have z4:=aa hk3 4
   have z5:=aa hk3 5
   have z6:=aa hk3 6
   simp only [Io,Il,Im] at z0 z1 z2 z3 z4 z5 z6
   clear hw3 hk3 hb3 a0 a1 a2 a3 a4 a5 a6
   have hends:∀ w':World,Below w3.heap.size w3 w'→∃ j:Nat,j≤O.length∧((.int .i64 ((k:Int)+1):Value)=.int .i64 j)∧Below w2.heap.size w2 w':=fun w' hb'=>⟨k+1,by omega,by simp,HBr.out.trans ((HB3.out.trans (hb'.mono HB3.out.size)).mono HBr.out.size)⟩
   have HE:=Ib hends
   clear hends
   by_cases hf:FlK x0
   ·have x4z:x4=0:=Ht.out.r (by unfold FlK at hf;simp only;omega) (by unfold FlK at hf;simp only;omega)
    have x5z:x5=0:=Ht.out.n (by unfold FlK at hf;simp only;omega) (by unfold FlK at hf;simp only;omega) (by unfold FlK at hf;simp only;omega)
    subst x4z x5z
    by_cases h6:x0=6
    ·subst h6
     have x6n:x6≠0:=Ht.out.y.1 rfl
     have d6:(x6 != 0)=true:=by simpa using x6n
     clear hf
     go_wp2
     go_roundw
     case rel=>exact HE.out _ Zb
     case measure=>simp [intOf];omega
    ·have x6z:x6=0:=Ht.out.w h6
     subst x6z
     have hf':x0=1∨x0=3∨x0=4∨x0=5∨x0=7:=by unfold FlK at hf;omega
     clear hf h6
     rcases hf' with rfl|rfl|rfl|rfl|rfl
     all_goals (
      go_wp2
      go_roundw
      case rel=>exact HE.out _ Zb
      case measure=>simp [intOf];omega)
   ·obtain ⟨x1z,x2z⟩:=Ht.out.s hf
    have x6z:x6=0:=Ht.out.w (fun e=>hf (by unfold FlK;simp only at e;omega))
    simp only at x1z x2z
    subst x1z x2z x6z
    by_cases h9:x0=9
    ·subst h9
     have x5z:x5=0:=Ht.out.n (by simp) (by simp) (by simp)
     subst x5z
     clear hf
     go_wp2
     go_roundw
     case rel=>exact HE.out _ Zb
     case measure=>simp [intOf];omega
    ·have x3z:x3=0:=Ht.out.b hf h9
     subst x3z
     by_cases h8:x0=8
     ·subst h8
      clear hf h9
      by_cases h5:x5=0
      ·subst h5
       go_wp2
       go_roundw
       case rel=>exact HE.out _ Zb
       case measure=>simp [intOf];omega
      ·have d5:(x5 != 0)=true:=by simpa using h5
       go_wp2
       go_roundw
       case rel=>exact HE.out _ Zb
       case measure=>simp [intOf];omega
     ·have x4z:x4=0:=Ht.out.r h8 h9
      subst x4z
      by_cases h2:x0=2∨x0=10
      ·have x5n:x5≠0:=(Ht.out.c h8).1 h2
       have d5:(x5 != 0)=true:=by simpa using x5n
       clear hf h8 h9
       rcases h2 with rfl|rfl
       all_goals (
        go_wp2
        go_roundw
        case rel=>exact HE.out _ Zb
        case measure=>simp [intOf];omega)
      ·have x5z:x5=0:=Ht.out.n h8 (fun e=>h2 (Or.inl e)) (fun e=>h2 (Or.inr e))
       subst x5z
       have g1:(x0 == 1)=false:=by unfold FlK at hf;simp;omega
       have g2:(x0 == 2)=false:=by simp;omega
       have g3:(x0 == 3)=false:=by unfold FlK at hf;simp;omega
       have g4:(x0 == 4)=false:=by unfold FlK at hf;simp;omega
       have g5:(x0 == 5)=false:=by unfold FlK at hf;simp;omega
       have g6:(x0 == 6)=false:=by unfold FlK at hf;simp;omega
       have g7zz:(x0 == 7)=false:=by unfold FlK at hf;simp;omega
       have g8:(x0 != 8)=true:=by simp;omega
       have g9zz:(x0 != 9)=true:=by simp;omega
       have g10:(x0 == 10)=false:=by simp;omega
       clear hf h2 h8 h9
       go_wp2
       go_roundw
       case rel=>exact HE.out _ Zb
       case measure=>simp [intOf];omega
  ·have hge:¬ (O.length:Int)<(O.length:Int):=by omega
   have H320:=Ib h320
   go_wp2
   go_ret
   exact ⟨rfl,HW2.out.trans (HBr.out.mono HW2.out.size)⟩
end Go.Proofs.YtocbhafgjepnjaaGreat
