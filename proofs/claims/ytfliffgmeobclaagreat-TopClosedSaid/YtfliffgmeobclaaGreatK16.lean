/- Texts of the row's proof. Conditions: none. -/
import Derived.BigQuiet
import Derived.Test.YtfliffgmeobclaaGreatK10
namespace Go.Proofs.YtfliffgmeobclaaGreat
set_option maxRecDepth 100000
set_option maxHeartbeats 8000000
section
open Go.RowKit
theorem Q70 {p:Prop} (h:p:=by
 first|(simp [results,Tryz.results125,go_sem, *];done)|(simp [results,Tryz.results125,go_sem, *];exact ⟨HV.out,HT.out⟩)):p:=h
theorem Q69 {p:Prop} (h:p:=by
 rw [HV.out,HT.out];exact ⟨_,rfl,bD _ _ _,(by repeat (first|(with_reducible exact BZ.out)|(with_reducible refine Hy ?_ Zs _)|(with_reducible refine aJ ?_)))⟩):p:=h
theorem Q12 {p:Prop} (h:p:=by
 have hb':decide ((iZ L:Int)<b)=false:=by simp;omega
 go_wp2;go_quiet ((go_at_call 154;exact Calls.quiet_of_same ((lQ _ L _ (nP (B:=w1.heap.size) (by repeat (first|(with_reducible exact RL.out)|(with_reducible refine aB ?_ Zs _)|(with_reducible refine dW ?_ _)))) hLn).mono fun _ _ h=>⟨h.1,h.2.symm⟩)));have q0:0≤c*2 ^ T:=Int.mul_nonneg (by omega) (Int.pow_nonneg (by omega))
 have q1:c*2 ^ T≤512000:=by
  have:=pow_up (c:=c) (j:=T) (n:=10) (by omega) (by omega);have e10:(2:Int) ^ 10=1024:=by decide
  rw [e10] at this;omega
 rcases (show 500<c*2 ^ T∨c*2 ^ T≤500 by omega) with hq|hq
 ·have HV:Hid (mF c T=500):=by simp only [Hid,mF,Id];omega
  rcases (show (T:Int)+1≤10∨10<(T:Int)+1 by omega) with ht|ht
  ·have HT:Hid (min ((T:Int)+1) 10=(T:Int)+1):=by simp only [Hid];omega
   go_wp2;refine Ix (v:=.tuple #[.agg #[.slice none 0 0,.bool true,.int .i64 (now+500),.int .i64 ((T:Int)+1)],.bool true,.int .i64 0]) ?_ rfl ?_
   ·exact Q70
   ·exact Q69
  ·have HT:Hid (min ((T:Int)+1) 10=10):=by simp only [Hid];omega
   go_wp2;refine Ix (v:=.tuple #[.agg #[.slice none 0 0,.bool true,.int .i64 (now+500),.int .i64 10],.bool true,.int .i64 0]) ?_ rfl ?_
   ·exact Q70
   ·exact Q69
 ·have HV:Hid (mF c T=c*2 ^ T):=by simp only [Hid,mF,Id];omega
  rcases (show (T:Int)+1≤10∨10<(T:Int)+1 by omega) with ht|ht
  ·have HT:Hid (min ((T:Int)+1) 10=(T:Int)+1):=by simp only [Hid];omega
   go_wp2;refine Ix (v:=.tuple #[.agg #[.slice none 0 0,.bool true,.int .i64 (now+(c*2 ^ T)),.int .i64 ((T:Int)+1)],.bool true,.int .i64 0]) ?_ rfl ?_
   ·exact Q70
   ·exact Q69
  ·have HT:Hid (min ((T:Int)+1) 10=10):=by simp only [Hid];omega
   go_wp2;refine Ix (v:=.tuple #[.agg #[.slice none 0 0,.bool true,.int .i64 (now+(c*2 ^ T)),.int .i64 10],.bool true,.int .i64 0]) ?_ rfl ?_
   ·exact Q70
   ·exact Q69):p:=h
theorem Q22 {p:Prop} (h:p:=by
 first|(simp [results,Tryz.results125,go_sem, *];done)|(simp [results,Tryz.results125,go_sem, *];exact ⟨HV.out,HT.out⟩)):p:=h
theorem Q24 {p:Prop} (h:p:=by
 skip
 exact (by refine aG (B:=w1.heap.size) ?_ Zs;repeat (first|(with_reducible exact RL.out)|(with_reducible refine aB ?_ Zs _)|(with_reducible refine cR ?_ _)|(with_reducible refine dW ?_ _)))):p:=h
theorem Q33 {p:Prop} (h:p:=by
 exact (by repeat (first|(with_reducible exact BZ.out)|(with_reducible refine Hy ?_ Zs _)|(with_reducible refine aJ ?_)))):p:=h
theorem Q79 {p:Prop} (h:p:=by
 go_wp2;refine Ix (v:=.tuple #[.agg #[.slice (some ⟨g,1,none⟩) M.length (cap - 1),.bool false,.int .i64 u',.int .i64 T],.bool false,.int .i64 0]) ?_ rfl ⟨_,rfl,?_,?_⟩
 ·exact Q22
 ·exact Q24
 ·exact Q33):p:=h
theorem Q81 {p:Prop} (h:p:=by
 go_wp2;refine Ix (v:=.tuple #[.agg #[.slice (some ⟨g,0,none⟩) (M.length+1) cap,.bool false,.int .i64 u',.int .i64 T],.bool false,.int .i64 0]) ?_ rfl ⟨_,rfl,?_,?_⟩
 ·exact Q22
 ·exact Q24
 ·exact Q33):p:=h
theorem Q154 {p:Prop} (h:p:=by
 rcases h with ⟨_,h⟩|⟨h,_⟩|⟨h,_⟩|⟨h,_⟩
 ·exact h
 all_goals exact absurd h hm):p:=h
theorem Bh:(Tryz.prog.info? 4).map (fun i=>(i.zero,i.size,i.bytes))=some (some (.bool false),1,1):=by kernel_rfl
theorem yG (M:List Bool):∀ c∈cI M,c.length=1:=by
 intro c hc;simp only [cI,It] at hc;obtain ⟨x,_,rfl⟩:=hc
 rfl
theorem wT (M:List Bool) (x:Bool):(cI (M++[x])).flatten=(cI M).flatten++[Value.bool x]:=by
 unfold cI;rw [Ir,Il];simp
theorem xo {B:Nat} {w:World} {g cap n:Nat} {L:List (List Value)} (h:aM B w 1 (.slice (some ⟨g,0,none⟩) (n+1) cap) L):aM B w 1 (.slice (some ⟨g,1,none⟩) n (cap - 1)) (L.drop 1):=by
 obtain ⟨⟨a,cap',he,h1,h2,h3,h4⟩,h5⟩:=h;simp only [Value.slice.injEq] at he;obtain ⟨rfl,hl,rfl⟩:=he
 have hne:L≠[]:=by intro h;rw [h] at hl;simp at hl
 obtain ⟨b,off,hb,hbl,hcell⟩:=h4 hne;simp only [Option.some.injEq,Addr.mk.injEq] at hb;obtain ⟨rfl,rfl,_⟩:=hb;refine ⟨⟨some ⟨g,1,none⟩,cap - 1,?_,?_,by omega,(fun h=>by cases h),fun _=>⟨g,1,rfl,hbl,fun i j hi hj=>?_⟩⟩,fun a n c h=>?_⟩
 ·rw [show (L.drop 1).length=n by rw [List.length_drop];omega]
 ·rw [List.length_drop];omega
 ·have:=hcell (i+1) j (by simp at hi;omega) hj;rw [show 1+i*1+j=0+(i+1)*1+j by omega,this]
  congr 1
  cases L with
  | nil=>exact absurd rfl hne
  | cons x L=>simp [List.getD]
 ·simp only [Value.slice.injEq,Option.some.injEq] at h;obtain ⟨rfl,_⟩:=h;exact h5 ⟨g,0,none⟩ _ _ rfl
theorem xU {w:World} {B n:Nat} {E:TypeId} {sz:Nat} {v:Value} {xs:List Value} (h:w.ownsRow B E sz v (n+1) xs):∃ g cap,v=.slice (some ⟨g,0,none⟩) (n+1) cap∧n+1≤cap∧cap≤maxLen:=by
 rcases h.2 with ⟨_,h0⟩|⟨g,cap,cur,e,_,_,h3,h4,_⟩
 ·omega
 ·exact ⟨g,cap,e,h3,h4⟩
theorem dZ (a b c:Int) (M:List Bool) (out:Bool) (u:Int) (T:Nat) (failed:Bool) (now:Int) (may:Bool) (M':List Bool) (out':Bool) (u' t':Int) (came:Bool) (v:Value) (w:World) (r:aI w 1 v (cI M)) (hc:ge a b c M.length out u T now 0) (h:zR a b c M out u T failed now may M' out' u' t' came 0) :
  Calls Tryz.prog 125 #[.agg #[.int .i64 a,.int .i64 b,.int .i64 c],.agg #[v,.bool out,.int .i64 u,.int .i64 T],.bool failed,.int .i64 now,.bool may] w (Ey w M' out' u' t' came 0):=by
 obtain ⟨i0,hi,hi0,hi1,hi2⟩:=info_parts Bh
 obtain ⟨hw,n1,n2,h3⟩:=fC hc
 obtain ⟨f1,f2,f3,f4,f5,f6⟩:=hw
 obtain ⟨k1,k2,k3,k4,k5,_⟩:=h3
 have R:=Hu r
 have HC:=Hu hc
 have HA:=Hu h
 obtain ⟨ad,cp,rfl,_⟩:=fq r
 clear r hc h
 have hM:M.length≤16:=by omega
 go_enter Tryz.func125,Tryz.ntmps125
 go_wp2_with (go_at_call 89;refine (iF _ _ _ _ _ _ _ _ _ _ _ _ HC.out).mono ?_;rintro e w1 ⟨rfl,hb1⟩;obtain ⟨hc1,hf1⟩:=aV hb1;have hz1:=fQ hb1;have hy1:=hb1.size;(try simp at hy1))
 (try have kw1_0:w.heap.size<w1.heap.size:=by omega);(try have kw1_1:w.heap.size+1<w1.heap.size:=by omega);(try have kw1_2:w.heap.size+1+1<w1.heap.size:=by omega)
 refine (jr _ M _ (au (ai (ai (ai R.out _) _) _) hb1) (by omega)).mono ?_
 rintro e w2 ⟨v2,rfl,hown,hb2⟩
 have HO:=Hu hown
 obtain ⟨ac,cc,rfl,_,_⟩:=aC hown
 obtain ⟨hc2,hf2⟩:=aV hb2
 have hz2:=fQ hb2
 have hy2:=hb2.size
 (try have kw2_0:w.heap.size<w2.heap.size:=by omega);(try have kw2_1:w.heap.size+1<w2.heap.size:=by omega);(try have kw2_2:w.heap.size+1+1<w2.heap.size:=by omega)
 have B2:=Hu hb2
 clear hown hb2
 go_wp2_with (at_builtin;go_loud (refine wpList_append_own _ rfl _ _ 127 rfl _ 4 i0 (.bool false) 1 1 Tryz.underlying127 hi hi0 hi1 hi2 rfl (by decide) _ M.length _ rfl (HO.out.alloc _) ⟨w2.heap.size,0,none⟩ 1 1 [.bool failed] rfl rfl (ko [.bool failed] 4) ?c1 ?c2 ?c3 ?c4 ?_))
 case c1=>first|rfl|(intro u hu;simp at hu;subst hu;rfl)
 case c2=>unfold maxLen;omega
 case c3=>omega
 case c4=>simp;omega
 intro v' w3 hown' hgrow _
 obtain ⟨g,cap,rfl,hcap,hcm⟩:=xU hown'
 have hB:=cM ((Hv w2.heap.size w2).alloc (I3 _) _) hy2 HO.out hgrow
 obtain ⟨hc3,hf3⟩:=aV hB
 have hy3:=hB.size
 have RM:Hid (aM w1.heap.size w3 1 (.slice (some ⟨g,0,none⟩) (M.length+1) cap) (cI (M++[failed]))):=aD (e:=4) (n:=M.length+1) (by rw [wT];exact hown') (by simp [cI]) (yG _)
 (try have kw3_0:w.heap.size<w3.heap.size:=by omega);(try have kw3_1:w.heap.size+1<w3.heap.size:=by omega);(try have kw3_2:w.heap.size+1+1<w3.heap.size:=by omega)
 clear hown' hgrow
 have BZ:=Hu (show Below w.heap.size w w3 from (Zb:Below w.heap.size w w1).trans ((B2.out.mono Zs).trans (hB.mono Zs)))
 have BZ:=Hu (show Below w.heap.size w w3 from (Zb:Below w.heap.size w w1).trans ((B2.out.mono Zs).trans (hB.mono Zs)))
 have BZ:=Hu (show Below w.heap.size w w3 from (Zb:Below w.heap.size w w1).trans ((B2.out.mono Zs).trans (hB.mono Zs)))
 have BZ:=Hu (show Below w.heap.size w w3 from (Zb:Below w.heap.size w w1).trans ((B2.out.mono Zs).trans (hB.mono Zs)))
 have BZ:=Hu (show Below w.heap.size w w3 from (Zb:Below w.heap.size w w1).trans ((B2.out.mono Zs).trans (hB.mono Zs)))
 have BZ:=Hu (show Below w.heap.size w w3 from (Zb:Below w.heap.size w w1).trans ((B2.out.mono Zs).trans (hB.mono Zs)))
 rcases (show (M.length:Int)<a∨(M.length:Int)=a by omega) with hlt|heq
 ·have hsub:(M.length:Int)+1 - a≤0:=by omega
  obtain ⟨L,hL⟩:∃ L,L=gz M failed a:=⟨_,rfl⟩
  have hL2:L=M++[failed]:=by rw [hL];unfold gz;rw [show (M.length+1:Nat) - a.toNat=0 by omega];rfl
  have hLn:L.length≤140737488351232:=by rw [hL2];simp;omega
  have hL17:L.length≤17:=by rw [hL2];simp;omega
  have RL:Hid (aM w1.heap.size w3 1 (.slice (some ⟨g,0,none⟩) (M.length+1) cap) (cI L)):=by rw [hL2];exact RM.out
  have hLf:=qt L;obtain ⟨HA1,HA2⟩:=HA.out;rw [← hL] at HA2;clear HA1 HA hL2 hL RM;rcases HA2 with ⟨h,_⟩|⟨_,rfl,rfl,hb,rfl,rfl,rfl,rfl,rfl⟩|⟨_,hk,rfl,rfl,rfl,hT,rfl⟩
  ·exact absurd rfl h
  ·exact Q12
  ·obtain rfl:t'=T:=hT;rcases hk with rfl|⟨rfl,rfl⟩|⟨rfl,rfl,hb⟩
   ·go_wp2;go_quiet (fail);go_wp2;refine Ix (v:=.tuple #[.agg #[.slice (some ⟨g,0,none⟩) (M.length+1) cap,.bool true,.int .i64 u',.int .i64 T],.bool false,.int .i64 0]) ?_ rfl ⟨_,rfl,?_,?_⟩
    ·exact Q22
    ·exact Q24
    ·exact Q33
   ·go_wp2;go_quiet (fail);exact Q81
   ·go_wp2;go_quiet ((go_at_call 154;exact Calls.quiet_of_same ((lQ _ M' _ (nP (B:=w1.heap.size) (by repeat (first|(with_reducible exact RL.out)|(with_reducible refine aB ?_ Zs _)|(with_reducible refine dW ?_ _)))) hLn).mono fun _ _ h=>⟨h.1,h.2.symm⟩)));exact Q81
 ·have hcap2:1<cap:=by omega
  subst heq;have hss:=Fh w3 (w.heap.size+1) 0;obtain ⟨L,hL⟩:∃ L,L=gz M failed (M.length:Int):=⟨_,rfl⟩
  have hL2:L=(M++[failed]).drop 1:=by rw [hL];unfold gz;rw [show (M.length+1:Nat) - (M.length:Int).toNat=1 by omega]
  have hLn:L.length≤140737488351232:=by rw [hL2];simp;omega
  have hL17:L.length≤17:=by rw [hL2];simp;omega
  have c9:(1:Int)≤(M.length:Int)+1:=by omega
  have c10:(M.length:Int)+1 - (M.length:Int)=1:=by omega
  have c11:(1:Int)<(cap:Int):=by omega
  have c12:(cap:Int) - 1=((cap - 1:Nat):Int):=by omega
  have RL:Hid (aM w1.heap.size w3 1 (.slice (some ⟨g,1,none⟩) M.length (cap - 1)) (cI L)):=by rw [hL2];exact by have h:=xo RM.out;rw [show (cI (M++[failed])).drop 1=cI ((M++[failed]).drop 1) from (List.map_drop ..).symm] at h;exact h
  have hLf:=qt L;obtain ⟨HA1,HA2⟩:=HA.out;rw [← hL] at HA2;clear HA1 HA hL2 hL RM;rcases HA2 with ⟨h,_⟩|⟨_,rfl,rfl,hb,rfl,rfl,rfl,rfl,rfl⟩|⟨_,hk,rfl,rfl,rfl,hT,rfl⟩
  ·exact absurd rfl h
  ·exact Q12
  ·obtain rfl:t'=T:=hT;rcases hk with rfl|⟨rfl,rfl⟩|⟨rfl,rfl,hb⟩
   ·go_wp2;go_quiet (fail);go_wp2;refine Ix (v:=.tuple #[.agg #[.slice (some ⟨g,1,none⟩) M.length (cap - 1),.bool true,.int .i64 u',.int .i64 T],.bool false,.int .i64 0]) ?_ rfl ⟨_,rfl,?_,?_⟩
    ·exact Q22
    ·exact Q24
    ·exact Q33
   ·go_wp2;go_quiet (fail);exact Q79
   ·go_wp2;go_quiet ((go_at_call 154;exact Calls.quiet_of_same ((lQ _ M' _ (nP (B:=w1.heap.size) (by repeat (first|(with_reducible exact RL.out)|(with_reducible refine aB ?_ Zs _)|(with_reducible refine dW ?_ _)))) hLn).mono fun _ _ h=>⟨h.1,h.2.symm⟩)));exact Q79
end
end Go.Proofs.YtfliffgmeobclaaGreat
