/- Texts of the row's proof. Conditions: none. -/
import Derived.BigQuiet
import Derived.Test.YtennppmadmgfoaaGreatDoorK08
namespace Go.Proofs.YtennppmadmgfoaaGreatDoor
open Proofs.Tryz
set_option maxRecDepth 100000
set_option maxHeartbeats 8000000
section
open Go.RowKit
theorem Q70 {p:Prop} (h:p:=by
 first|(simp [results,results129,go_sem, *];done)|(simp [results,results129,go_sem, *];exact ⟨HV.out,HT.out⟩)):p:=h
theorem Q69 {p:Prop} (h:p:=by
 rw [HV.out,HT.out];exact ⟨_,rfl,bH _ _ _,(by repeat (first|(with_reducible exact BZ.out)|(with_reducible refine KO ?_ Zs _)|(with_reducible refine aM ?_)))⟩):p:=h
theorem Q12 {p:Prop} (h:p:=by
 have hb':decide ((ja L:Int)<b)=false:=by simp;omega
 go_wp2;go_quiet ((go_at_call 158;exact Calls.quiet_of_same ((mz _ L _ (oU (B:=w1.heap.size) (by repeat (first|(with_reducible exact RL.out)|(with_reducible refine aD ?_ Zs _)|(with_reducible refine dY ?_ _)))) hLn).mono fun _ _ h=>⟨h.1,h.2.symm⟩)));have q0:0<=c*2 ^ T:=Int.mul_nonneg (by omega) (Int.pow_nonneg (by omega))
 have q1:c*2 ^ T<=512000:=by
  have:=pow_up (c:=c) (j:=T) (n:=10) (by omega) (by omega);have e10:(2:Int) ^ 10=1024:=by decide
  rw [e10] at this;omega
 rcases (show 500<c*2 ^ T\/c*2 ^ T<=500 by omega) with hq|hq
 ·have HV:Hid (nz c T=500):=by simp only [Hid,nz,Lm];omega
  rcases (show (T:Int)+1<=10\/10<(T:Int)+1 by omega) with ht|ht
  ·have HT:Hid (min ((T:Int)+1) 10=(T:Int)+1):=by simp only [Hid];omega
   go_wp2;refine LN (v:=.tuple #[.agg #[.slice none 0 0,.bool true,.int .i64 (now+500),.int .i64 ((T:Int)+1)],.bool true,.int .i64 0]) ?_ rfl ?_
   ·exact Q70
   ·exact Q69
  ·have HT:Hid (min ((T:Int)+1) 10=10):=by simp only [Hid];omega
   go_wp2;refine LN (v:=.tuple #[.agg #[.slice none 0 0,.bool true,.int .i64 (now+500),.int .i64 10],.bool true,.int .i64 0]) ?_ rfl ?_
   ·exact Q70
   ·exact Q69
 ·have HV:Hid (nz c T=c*2 ^ T):=by simp only [Hid,nz,Lm];omega
  rcases (show (T:Int)+1<=10\/10<(T:Int)+1 by omega) with ht|ht
  ·have HT:Hid (min ((T:Int)+1) 10=(T:Int)+1):=by simp only [Hid];omega
   go_wp2;refine LN (v:=.tuple #[.agg #[.slice none 0 0,.bool true,.int .i64 (now+(c*2 ^ T)),.int .i64 ((T:Int)+1)],.bool true,.int .i64 0]) ?_ rfl ?_
   ·exact Q70
   ·exact Q69
  ·have HT:Hid (min ((T:Int)+1) 10=10):=by simp only [Hid];omega
   go_wp2;refine LN (v:=.tuple #[.agg #[.slice none 0 0,.bool true,.int .i64 (now+(c*2 ^ T)),.int .i64 10],.bool true,.int .i64 0]) ?_ rfl ?_
   ·exact Q70
   ·exact Q69):p:=h
theorem Q21 {p:Prop} (h:p:=by
 first|(simp [results,results129,go_sem, *];done)|(simp [results,results129,go_sem, *];exact ⟨HV.out,HT.out⟩)):p:=h
theorem Q23 {p:Prop} (h:p:=by
 skip
 exact (by refine aJ (B:=w1.heap.size) ?_ Zs;repeat (first|(with_reducible exact RL.out)|(with_reducible refine aD ?_ Zs _)|(with_reducible refine cX ?_ _)|(with_reducible refine dY ?_ _)))):p:=h
theorem Q32 {p:Prop} (h:p:=by
 exact (by repeat (first|(with_reducible exact BZ.out)|(with_reducible refine KO ?_ Zs _)|(with_reducible refine aM ?_)))):p:=h
theorem Q73 {p:Prop} (h:p:=by
 go_wp2;refine LN (v:=.tuple #[.agg #[.slice (some ⟨g,1,none⟩) M.length (cap - 1),.bool false,.int .i64 u',.int .i64 T],.bool false,.int .i64 0]) ?_ rfl ⟨_,rfl,?_,?_⟩
 ·exact Q21
 ·exact Q23
 ·exact Q32):p:=h
theorem Q75 {p:Prop} (h:p:=by
 go_wp2;refine LN (v:=.tuple #[.agg #[.slice (some ⟨g,0,none⟩) (M.length+1) cap,.bool false,.int .i64 u',.int .i64 T],.bool false,.int .i64 0]) ?_ rfl ⟨_,rfl,?_,?_⟩
 ·exact Q21
 ·exact Q23
 ·exact Q32):p:=h
theorem Q141 {p:Prop} (h:p:=by
 rcases h with ⟨_,h⟩|⟨h,_⟩|⟨h,_⟩|⟨h,_⟩
 ·exact h
 all_goals exact absurd h hm):p:=h
theorem Dm:(prog.info? 4).map (fun i=>(i.zero,i.size,i.bytes))=some (some (.bool false),1,1):=by kernel_rfl
theorem Ao (M:List Bool):∀ c∈cN M,c.length=1:=by
 intro c h;simp only [cN,LH] at h;obtain ⟨z,_,rfl⟩:=h
 rfl
theorem yG (M:List Bool) (x:Bool):(cN (M++[x])).flatten=(cN M).flatten++[Value.bool x]:=by
 unfold cN;rw [LG,Lv];simp
theorem yU {B:Nat} {w:World} {g z n:Nat} {L:List (List Value)} (h:aN B w 1 (.slice (some ⟨g,0,none⟩) (n+1) z) L):aN B w 1 (.slice (some ⟨g,1,none⟩) n (z - 1)) (L.drop 1):=by
 obtain ⟨⟨Y,a2,K,h1,h2,h3,Z⟩,h5⟩:=h;simp only [Value.slice.injEq] at K;obtain ⟨rfl,U,rfl⟩:=K
 have W:L≠[]:=by intro h;rw [h] at U;simp at U
 obtain ⟨b,a3,J,a0,a1⟩:=Z W;simp only [Option.some.injEq,Addr.mk.injEq] at J;obtain ⟨rfl,rfl,_⟩:=J;refine ⟨⟨some ⟨g,1,none⟩,z - 1,?_,?_,by omega,(fun h=>by cases h),fun _=>⟨g,1,rfl,a0,fun E I hi hj=>?_⟩⟩,fun Y n c h=>?_⟩
 ·rw [show (L.drop 1).length=n by rw [List.length_drop];omega]
 ·rw [List.length_drop];omega
 ·have:=a1 (E+1) I (by simp at hi;omega) hj;rw [show 1+E*1+I=0+(E+1)*1+I by omega,this]
  congr 1
  cases L with
  | nil=>exact absurd rfl W
  | cons x L=>simp [List.getD]
 ·simp only [Value.slice.injEq,Option.some.injEq] at h;obtain ⟨rfl,_⟩:=h;exact h5 ⟨g,0,none⟩ _ _ rfl
theorem zB {w:World} {B n:Nat} {z:TypeId} {sz:Nat} {v:Value} {xs:List Value} (I:w.ownsRow B z sz v (n+1) xs):∃ g h,v=.slice (some ⟨g,0,none⟩) (n+1) h/\n+1<=h/\h<=maxLen:=by
 rcases I.2 with ⟨_,W⟩|⟨g,h,U,E,_,_,J,K,_⟩
 ·omega
 ·exact ⟨g,h,E,J,K⟩
theorem ed (a b c:Int) (M:List Bool) (a4:Bool) (u:Int) (T:Nat) (E:Bool) (now:Int) (a7:Bool) (M':List Bool) (a8:Bool) (u' t':Int) (a5:Bool) (v:Value) (w:World) (r:aK w 1 v (cN M)) (hc:gv a b c M.length a4 u T now 0) (h:BV a b c M a4 u T E now a7 M' a8 u' t' a5 0) :
  Calls prog 129 #[.agg #[.int .i64 a,.int .i64 b,.int .i64 c],.agg #[v,.bool a4,.int .i64 u,.int .i64 T],.bool E,.int .i64 now,.bool a7] w (Hz w M' a8 u' t' a5 0):=by
 obtain ⟨i0,hi,af,ag,ak⟩:=info_parts Dm
 obtain ⟨hw,n1,n2,h3⟩:=fJ hc
 obtain ⟨f1,f2,f3,f4,f5,f6⟩:=hw
 obtain ⟨k1,k2,k3,k4,k5,_⟩:=h3
 have R:=KL r
 have HC:=KL hc
 have HA:=KL h
 obtain ⟨ad,cp,rfl,_⟩:=fC r
 clear r hc h
 have hM:M.length<=16:=by omega
 go_in
 go_wp2_with (go_at_call 93;refine (iO _ _ _ _ _ _ _ _ _ _ _ _ HC.out).mono ?_;rintro e w1 ⟨rfl,a0⟩;obtain ⟨au,aF⟩:=aX a0;have b2:=fX a0;have al:=a0.size;(try simp at al))
 (try have b4:w.heap.size<w1.heap.size:=by omega);(try have b5:w.heap.size+1<w1.heap.size:=by omega);(try have b6:w.heap.size+1+1<w1.heap.size:=by omega)
 refine (jz _ M _ (aq (ai (ai (ai R.out _) _) _) a0) (by omega)).mono ?_
 rintro e W ⟨v2,rfl,a2,Z⟩
 have HO:=KL a2
 obtain ⟨ac,cc,rfl,_,_⟩:=aE a2
 obtain ⟨av,aH⟩:=aX Z
 have b3:=fX Z
 have am:=Z.size
 (try have b7:w.heap.size<W.heap.size:=by omega);(try have b8:w.heap.size+1<W.heap.size:=by omega);(try have b9:w.heap.size+1+1<W.heap.size:=by omega)
 have U:=KL Z
 clear a2 Z
 go_wp2_with (at_builtin;go_loud (refine wpList_append_own _ rfl _ _ 30 rfl _ 4 i0 (.bool false) 1 1 underlying30 hi af ag ak rfl (by decide) _ M.length _ rfl (HO.out.alloc _) ⟨W.heap.size,0,none⟩ 1 1 [.bool E] rfl rfl (kJ [.bool E] 4) ?c1 ?c2 ?c3 ?c4 ?_))
 case c1=>first|rfl|(intro u hu;simp at hu;subst hu;rfl)
 case c2=>unfold maxLen;omega
 case c3=>omega
 case c4=>simp;omega
 intro v' z a3 a6 _
 obtain ⟨g,cap,rfl,ax,aA⟩:=zB a3
 have J:=cP ((KM W.heap.size W).alloc (KY _) _) am HO.out a6
 obtain ⟨aw,aL⟩:=aX J
 have b1:=J.size
 have RM:Hid (aN w1.heap.size z 1 (.slice (some ⟨g,0,none⟩) (M.length+1) cap) (cN (M++[E]))):=aG (e:=4) (n:=M.length+1) (by rw [yG];exact a3) (by simp [cN]) (Ao _)
 (try have ba:w.heap.size<z.heap.size:=by omega);(try have bb:w.heap.size+1<z.heap.size:=by omega);(try have bc:w.heap.size+1+1<z.heap.size:=by omega)
 clear a3 a6
 have BZ:=KL (show Below w.heap.size w z from (Zb:Below w.heap.size w w1).trans ((U.out.mono Zs).trans (J.mono Zs)))
 have BZ:=KL (show Below w.heap.size w z from (Zb:Below w.heap.size w w1).trans ((U.out.mono Zs).trans (J.mono Zs)))
 have BZ:=KL (show Below w.heap.size w z from (Zb:Below w.heap.size w w1).trans ((U.out.mono Zs).trans (J.mono Zs)))
 have BZ:=KL (show Below w.heap.size w z from (Zb:Below w.heap.size w w1).trans ((U.out.mono Zs).trans (J.mono Zs)))
 have BZ:=KL (show Below w.heap.size w z from (Zb:Below w.heap.size w w1).trans ((U.out.mono Zs).trans (J.mono Zs)))
 have BZ:=KL (show Below w.heap.size w z from (Zb:Below w.heap.size w w1).trans ((U.out.mono Zs).trans (J.mono Zs)))
 rcases (show (M.length:Int)<a\/(M.length:Int)=a by omega) with aS|ab
 ·have b0:(M.length:Int)+1 - a<=0:=by omega
  obtain ⟨L,K⟩:∃ L,L=gJ M E a:=⟨_,rfl⟩
  have I:L=M++[E]:=by rw [K];unfold gJ;rw [show (M.length+1:Nat) - a.toNat=0 by omega];rfl
  have hLn:L.length<=140737488351232:=by rw [I];simp;omega
  have a9:L.length<=17:=by rw [I];simp;omega
  have RL:Hid (aN w1.heap.size z 1 (.slice (some ⟨g,0,none⟩) (M.length+1) cap) (cN L)):=by rw [I];exact RM.out
  have aa:=rG L;obtain ⟨a1,Y⟩:=HA.out;rw [<- K] at Y;clear a1 HA I K RM;rcases Y with ⟨h,_⟩|⟨_,rfl,rfl,hb,rfl,rfl,rfl,rfl,rfl⟩|⟨_,hk,rfl,rfl,rfl,hT,rfl⟩
  ·exact absurd rfl h
  ·exact Q12
  ·obtain rfl:t'=T:=hT;rcases hk with rfl|⟨rfl,rfl⟩|⟨rfl,rfl,hb⟩
   ·go_wp2;go_quiet (fail);go_wp2;refine LN (v:=.tuple #[.agg #[.slice (some ⟨g,0,none⟩) (M.length+1) cap,.bool true,.int .i64 u',.int .i64 T],.bool false,.int .i64 0]) ?_ rfl ⟨_,rfl,?_,?_⟩
    ·exact Q21
    ·exact Q23
    ·exact Q32
   ·go_wp2;go_quiet (fail);exact Q75
   ·go_wp2;go_quiet ((go_at_call 158;exact Calls.quiet_of_same ((mz _ M' _ (oU (B:=w1.heap.size) (by repeat (first|(with_reducible exact RL.out)|(with_reducible refine aD ?_ Zs _)|(with_reducible refine dY ?_ _)))) hLn).mono fun _ _ h=>⟨h.1,h.2.symm⟩)));exact Q75
 ·have ay:1<cap:=by omega
  subst ab;have aT:=IA z (w.heap.size+1) 0;obtain ⟨L,K⟩:∃ L,L=gJ M E (M.length:Int):=⟨_,rfl⟩
  have I:L=(M++[E]).drop 1:=by rw [K];unfold gJ;rw [show (M.length+1:Nat) - (M.length:Int).toNat=1 by omega]
  have hLn:L.length<=140737488351232:=by rw [I];simp;omega
  have a9:L.length<=17:=by rw [I];simp;omega
  have c9:(1:Int)<=(M.length:Int)+1:=by omega
  have an:(M.length:Int)+1 - (M.length:Int)=1:=by omega
  have ao:(1:Int)<(cap:Int):=by omega
  have ar:(cap:Int) - 1=((cap - 1:Nat):Int):=by omega
  have RL:Hid (aN w1.heap.size z 1 (.slice (some ⟨g,1,none⟩) M.length (cap - 1)) (cN L)):=by rw [I];exact by have h:=yU RM.out;rw [show (cN (M++[E])).drop 1=cN ((M++[E]).drop 1) from (List.map_drop ..).symm] at h;exact h
  have aa:=rG L;obtain ⟨a1,Y⟩:=HA.out;rw [<- K] at Y;clear a1 HA I K RM;rcases Y with ⟨h,_⟩|⟨_,rfl,rfl,hb,rfl,rfl,rfl,rfl,rfl⟩|⟨_,hk,rfl,rfl,rfl,hT,rfl⟩
  ·exact absurd rfl h
  ·exact Q12
  ·obtain rfl:t'=T:=hT;rcases hk with rfl|⟨rfl,rfl⟩|⟨rfl,rfl,hb⟩
   ·go_wp2;go_quiet (fail);go_wp2;refine LN (v:=.tuple #[.agg #[.slice (some ⟨g,1,none⟩) M.length (cap - 1),.bool true,.int .i64 u',.int .i64 T],.bool false,.int .i64 0]) ?_ rfl ⟨_,rfl,?_,?_⟩
    ·exact Q21
    ·exact Q23
    ·exact Q32
   ·go_wp2;go_quiet (fail);exact Q73
   ·go_wp2;go_quiet ((go_at_call 158;exact Calls.quiet_of_same ((mz _ M' _ (oU (B:=w1.heap.size) (by repeat (first|(with_reducible exact RL.out)|(with_reducible refine aD ?_ Zs _)|(with_reducible refine dY ?_ _)))) hLn).mono fun _ _ h=>⟨h.1,h.2.symm⟩)));exact Q73
end
end Go.Proofs.YtennppmadmgfoaaGreatDoor
