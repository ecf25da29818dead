/- Texts of the row's proof. Conditions: none. -/
import Derived.Test.YtfliffgmeobclaaGreatK38
namespace Go.Proofs.YtfliffgmeobclaaGreat
set_option maxRecDepth 100000
set_option maxHeartbeats 8000000
section
open Go.RowKit
theorem GR_box {p:Nat} {w:World} {X:Wd} {V:Vs} {vo:Value} {T:TypeId} (h:WA w X V) (hb:w.heap[p]?=some (.cells (dj X V++[vo]).toArray T (0,0))):GR p w X V:=by
 refine ⟨h.ro,h.fl,h.he,lt_of_block hb,fun i v hv=>?_⟩
 have hi:i<26:=by
  exact Q133
 rw [ae hb i,I7,IB (by rw [iT];exact hi),hv]
theorem As {w:World} {X:Wd} {V:Vs} (h:WA w X V) (hm:WdMay X):Calls Tryz.prog 29 #[.agg (dj X V).toArray] w fun e w'=>e=.returned (.bool true)∧Below w.heap.size w w':=by
 have HW:=Hu h;have HX:=Hu hm
 obtain ⟨aH,cH,eH⟩:∃ a c,V.h=.slice a (eE X V).length c:=by obtain ⟨a,c,e,_⟩:=h.he;exact ⟨a,c,e⟩
 rw [dF h.ro.ml,hm.gw.hl] at eH;obtain ⟨aT,cT,eT,_⟩:=aq h.ro.ta.1;have RH:=Hu (show aI w 4 (.slice aH 12 cH) (eE X V) by have:=h.he;rw [eH] at this;exact this);obtain ⟨bh,oh,hbh,hbhl,RHc⟩:∃ bh oh,aH=some ⟨bh,oh,none⟩∧bh<w.heap.size∧∀ i j,i<12→j<4→w.cell? ⟨bh,oh+i*4+j,none⟩=(sC (V.m.getD i undef) (X.health.getD i Ht.zero))[j]?:=DC RH.out HW.out.ro.ml HX.out.gw.hl;subst hbh;have HRc:=Hu RHc;have eA:(dj X V).toArray=#[.int .i64 (X.tab.length:Int),.int .i64 X.cf.num,.int .i64 X.cf.den,.int .i64 X.cf.tries,.int .i64 X.cf.warm,.int .i64 X.cf.drain,.int .i64 X.cf.idle,.int .i64 X.cf.connect,.int .i64 X.cf.retries,.int .i64 X.cf.most,.int .i64 X.cf.bn,.int .i64 X.cf.bd,.int .i64 X.cf.bb,.int .i64 X.cf.ww,.int .i64 X.cf.wf,.int .i64 X.cf.wh,.int .i64 X.now,.slice aT X.tab.length cT,V.f,V.l,V.r,V.s,.slice (some ⟨bh,oh,none⟩) 12 cH,.int .i64 X.tok,.int .i64 X.now,V.w]:=by rw [wdA,eH,eT,hm.gw.tl,hm.gw.wn]
 have HA:=Hu eA;rw [eA]
 have hcf:ju ⟨(X.tab.length:Int),X.cf.num,X.cf.den,X.cf.tries,X.cf.warm,X.cf.drain,X.cf.idle,X.cf.connect,X.cf.retries,X.cf.most,X.cf.bn,X.cf.bd,X.cf.bb,X.cf.ww,X.cf.wf,X.cf.wh⟩:=by rw [hm.gw.tl];exact hm.gw.cf
 have HCf:=Hu hcf;have eT2:=Hu eT;have n0:=hm.gw.n0;have n1:=hm.gw.n1;clear h hm RHc eA hcf eH eT;go_enter Tryz.func29,Tryz.ntmps29;go_wp2_with fail;refine eV _ (fun W0 hW0=>?_)
 have b0:Below w.heap.size w W0:=by rw [hW0];exact (Hv _ _).alloc (I3 _) _
 have k0:W0.heap[w.heap.size]?=some (.cells #[.int .i64 (X.tab.length:Int),.int .i64 X.cf.num,.int .i64 X.cf.den,.int .i64 X.cf.tries,.int .i64 X.cf.warm,.int .i64 X.cf.drain,.int .i64 X.cf.idle,.int .i64 X.cf.connect,.int .i64 X.cf.retries,.int .i64 X.cf.most,.int .i64 X.cf.bn,.int .i64 X.cf.bd,.int .i64 X.cf.bb,.int .i64 X.cf.ww,.int .i64 X.cf.wf,.int .i64 X.cf.wh,.int .i64 X.now,.slice aT X.tab.length cT,V.f,V.l,V.r,V.s,.slice (some ⟨bh,oh,none⟩) 12 cH,.int .i64 X.tok,.int .i64 X.now,V.w] 63 (0,0)):=by rw [hW0];exact az _ rfl
 clear hW0;refine (kj _ _ _ _ _ _ _ _ _ _ _ _ _ _ _ _ W0 HCf.out).mono ?_;rintro e w1 ⟨rfl,hb1⟩;have b1:=b0.trans (hb1.mono b0.size);have k1:=aj hb1 k0 (lt_of_block k0);have x0:=ae k1 0;have x16:=ae k1 16;have x17:=ae k1 17;simp only [I7,I6,I5] at x0 x16 x17;have l1:=lt_of_block k1;have B1:=Hu (And.intro b1 k1);clear b0 k0 hb1 b1 k1;go_wp2_with (go_at_call 36;refine (lE _ _ _ _ n0 n1).mono ?_;rintro e w2 ⟨rfl,rfl⟩);refine (fc _ X.tab _ (by have:=(HW.out.below B1.out.1).ro.ta.1;have e:=eT2.out;rw [e] at this;exact this) HX.out.gw.tb).mono ?_;rintro e w2 ⟨rfl,hb2⟩;have b1:=B1.out.1;have k1:=B1.out.2;have b2:=b1.trans (hb2.mono b1.size);have k2:=aj hb2 k1 (lt_of_block k1);have x0:=ae k2 0;have x16:=ae k2 16;have x17:=ae k2 17;have x19:=ae k2 19;have x20:=ae k2 20;have x22:=ae k2 22;simp only [I7,I6,I5] at x0 x16 x17 x19 x20 x22;have l2:=lt_of_block k2;have B2:=Hu (And.intro b2 k2);clear hb2 b1 k1 b2 k2;go_wp2_with fail;refine (kh _ _ X.lives X.reqs 0 _ (HW.out.below B2.out.1).ro.li.1 (HW.out.below B2.out.1).ro.re.1 (Or.inl ⟨HX.out.gw.bk,rfl⟩)).mono ?_;rintro e w3 ⟨rfl,hb3⟩;have b2:=B2.out.1;have k2:=B2.out.2;have b3:=b2.trans (hb3.mono b2.size);have k3:=aj hb3 k2 (lt_of_block k2);have x10:=ae k3 10;have x11:=ae k3 11;have x12:=ae k3 12;have x16:=ae k3 16;have x22:=ae k3 22;have x23:=ae k3 23;have x24:=ae k3 24;have x25:=ae k3 25;simp only [I7,I6,I5] at x10 x11 x12 x16 x22 x23 x24 x25;have l3:=lt_of_block k3;have B3:=Hu (And.intro b3 k3);have hbd:=HX.out.gw.cf.2.1;clear hb3 b2 k2 b3 k3;go_wp2_with fail;refine (jy _ _ _ _ _ hbd ⟨HX.out.gw.t0,HX.out.gw.t1⟩).mono ?_;rintro e w4 ⟨rfl,hb4⟩;have b3:=B3.out.1;have k3:=B3.out.2;have b4:=b3.trans (hb4.mono b3.size);have k4:=aj hb4 k3 (lt_of_block k3);have x16:=ae k4 16;have x24:=ae k4 24;have x25:=ae k4 25;simp only [I7,I6,I5] at x16 x24 x25;have l4:=lt_of_block k4;have B4:=Hu (And.intro b4 k4);clear hb4 b3 k3 b4 k4 hbd;go_wp2_with fail;refine dv _ (fun wc hwc=>?_)
 have bwc:Below w4.heap.size w4 wc:=by rw [hwc];exact (Hv _ _).alloc (I3 _) _
 have b5:=B4.out.1.trans (bwc.mono B4.out.1.size);have k5:=aj bwc B4.out.2 (lt_of_block B4.out.2);refine (cW V.w X.now X.lists (-1) wc (HW.out.below b5).ro.wh.at_ (by have:=gO HX.out.gw;omega) (by have:=te HX.out;have:=HX.out.gw.len;omega) 0 [] 8 (Or.inr (Or.inl ⟨HX.out.gw.wh,fun t ht=>by have:=(HX.out.gw.wh.tm t ht).2.2.2.1;omega,rfl,rfl,rfl⟩))).mono ?_;rintro e w6 ⟨v6,rfl,R6,hb6⟩;obtain ⟨a6,c6,rfl⟩:=bI R6.at_;have b6:=b5.trans (hb6.mono b5.size);have k6:=aj hb6 k5 (lt_of_block k5);have x22:=ae k6 22;simp only [I7,I6,I5] at x22;have l6:=lt_of_block k6;have B6:=Hu (And.intro b6 k6);clear hwc bwc b5 k5 hb6 R6 b6 k6;go_wp2_with fail;refine pd _ (fun wl hwl=>?_)
 have bl:=show Below w6.heap.size w6 wl by rw [hwl];exact (Hv _ _).alloc (I3 _) _
 have S0:=Hu (And.intro (B6.out.1.trans (bl.mono B6.out.1.size)) (aj bl B6.out.2 (lt_of_block B6.out.2)));clear hwl bl x22 l6;go_loopw [81] (fun i wr=>∃ k:Nat,k≤12∧i=.int .i64 k∧Below w.heap.size w wr∧wr.heap[w.heap.size]?=some (.cells #[.int .i64 (X.tab.length:Int),.int .i64 X.cf.num,.int .i64 X.cf.den,.int .i64 X.cf.tries,.int .i64 X.cf.warm,.int .i64 X.cf.drain,.int .i64 X.cf.idle,.int .i64 X.cf.connect,.int .i64 X.cf.retries,.int .i64 X.cf.most,.int .i64 X.cf.bn,.int .i64 X.cf.bd,.int .i64 X.cf.bb,.int .i64 X.cf.ww,.int .i64 X.cf.wf,.int .i64 X.cf.wh,.int .i64 X.now,.slice aT X.tab.length cT,V.f,V.l,V.r,V.s,.slice (some ⟨bh,oh,none⟩) 12 cH,.int .i64 X.tok,.int .i64 X.now,V.w] 63 (0,0))) (fun i _=>12 - (intOf i).toNat)
 case atStart=>exact ⟨0,I4 _,rfl,S0.out.1,S0.out.2⟩
 case round=>
  obtain ⟨k,hk,rfl,hbel,hk0⟩:=hrel;have hz:=hbel.size;have l0:=lt_of_block hk0;have HB:=Hu (And.intro hbel hk0);rcases (show k<12∨k=12 by omega) with hlt|rfl
  ·have hlt':(k:Int)<12:=by omega
   have k0':(0:Int)≤(k:Int):=by omega
   have hmr:=(HW.out.below hbel).ro.mr k (by rw [HX.out.gw.hl];exact hlt);have hht:=HX.out.gw.ht k hlt;have hho:=HX.out.gw.ho k hlt;have q0:=(hbel.cell (p:=⟨bh,oh+k*4+0,none⟩) hbhl).trans (HRc.out k 0 hlt (by omega));have q1:=(hbel.cell (p:=⟨bh,oh+k*4+1,none⟩) hbhl).trans (HRc.out k 1 hlt (by omega));have q2:=(hbel.cell (p:=⟨bh,oh+k*4+2,none⟩) hbhl).trans (HRc.out k 2 hlt (by omega));have q3:=(hbel.cell (p:=⟨bh,oh+k*4+3,none⟩) hbhl).trans (HRc.out k 3 hlt (by omega));simp only [sC,I5,I6,Nat.add_zero] at q0 q1 q2 q3;obtain ⟨H,hH⟩:∃ H,H=X.health.getD k Ht.zero:=⟨_,rfl⟩;obtain ⟨mv,hmv⟩:∃ mv,mv=V.m.getD k undef:=⟨_,rfl⟩;rw [← hH] at hmr hht hho q1 q2 q3;rw [← hmv] at hmr q0;have hba:=zK X.cf H X.now hht;obtain ⟨came,hba⟩:=hba;have hM:=(fC hht).2.2.2.1;have hwm:=(fC hht).1.2.1;obtain ⟨M2,hM2⟩:∃ M2,M2=fI X.now H:=⟨_,rfl⟩;rw [← hM2] at hba;obtain ⟨am,cm,rfl,_⟩:=fq hmr.1;have HMr:=Hu hmr.1;have HBa:=Hu hba;obtain ⟨M_,o_,u_,t_⟩:=H;obtain ⟨N_,o2,u2',t2⟩:=M2;have HHo:=Hu hho;have x13:=ae hk0 13;have x14:=ae hk0 14;have x15:=ae hk0 15;have x16:=ae hk0 16;simp only [I7,I6,I5] at x13 x14 x15 x16;simp only at q1 q2 q3 hM;clear hmr hht hho hba hM2 hH hmv hbel hk0;go_wp2_with fail;refine dv _ (fun wc hwc=>?_)
   have bwc:Below wr.heap.size wr wc:=by rw [hwc];exact (Hv _ _).alloc (I3 _) _
   have hh:wc.heap[wr.heap.size]?=some (.cells #[.slice am M_.length cm,.bool o_,.int .i64 u_,.int .i64 t_] 129 (0,0)):=by rw [hwc];exact az _ rfl
   refine (qd _ _ _ M_ o_ u_ t_ X.now N_ o2 u2' t2 came 0 _ wc (au HMr.out bwc) (by omega) HBa.out).mono ?_;rintro e w5 ⟨v5,rfl,R5,hb5⟩;obtain ⟨a5,c5,rfl,_⟩:=fq R5.1;have bw5:=bwc.trans (hb5.mono bwc.size);have h5:=aj hb5 hh (lt_of_block hh);have p1:w5.cell? ⟨wr.heap.size,1,none⟩=some (.bool o_):=ae h5 1;have p2:w5.cell? ⟨wr.heap.size,2,none⟩=some (.int .i64 u_):=ae h5 2;have hk5:=aj bw5 HB.out.2 l0;have x16:=ae hk5 16;simp only [I7,I6,I5] at x16;have l5:=lt_of_block h5;have l5':=lt_of_block hk5;have H5:=Hu (And.intro (HB.out.1.trans (bw5.mono HB.out.1.size)) hk5);clear hwc bwc hh R5 hb5 bw5 h5 hk5 q0 q1 q2 q3 x13 x14 x15
   cases o_ with
   | false=>
    exact Q104
   | true=>
    have hu:decide (u_≤X.now)=false:=by have:=HHo.out rfl;simp;omega
    have hu':¬ u_≤X.now:=by simpa using hu
    exact Q104
  ·have hge:¬ ((12:Nat):Int)<12:=by omega
   obtain ⟨AW,hAW⟩:∃ AW,AW=(dj X V).toArray:=⟨_,rfl⟩;obtain ⟨AZ,hAZ⟩:∃ AZ,AZ=(dj X V++[Value.slice none 0 0]).toArray:=⟨_,rfl⟩;have HK:=Hu (show wr.heap[w.heap.size]?=some (.cells AW 63 (0,0)) by rw [hAW,HA.out];exact hk0);have HI:=Hu (show (Tryz.prog.info? 63).map (·.size)=some AW.size by rw [hAW];kernel_rfl);have HAZ:=Hu hAZ;have HAW:=Hu hAW
   have hsz:AW.size=26:=by rw [hAW];rfl
   have HWr:=Hu (HW.out.below hbel);clear hbel hk0 hAW hAZ;go_wp2_with (refine Iy rfl 63 (.tmp 1) rfl w.heap.size rfl 63 AW (0,0) _ HK.out Tryz.underlying63 rfl HI.out ?_);refine dv _ (fun wc hwc=>?_)
   have hwc':wc=wr.alloc (.cells AZ 113 (0,0)):=by
    rw [hwc,HAZ.out,HAW.out]
    kernel_rfl
   have bwc:Below wr.heap.size wr wc:=by rw [hwc'];exact (Hv _ _).alloc (I3 _) _
   have hg:=GR_box (p:=wr.heap.size) (T:=113) (vo:=.slice none 0 0) (HWr.out.below bwc) (by rw [hwc',HAZ.out];exact az _ rfl);have HG:=Hu (And.intro hg (HB.out.1.trans (bwc.mono HB.out.1.size)));clear hwc hwc' bwc hg;refine (vd HG.out.1 HX.out).mono ?_;rintro e w7 ⟨rfl,hb7⟩;have HG7:=Hu (And.intro (fM HG.out.1 hb7) (HG.out.2.trans (hb7.mono HG.out.2.size)));clear hb7;go_wp2_with fail;refine (uZ HG7.out.1 HX.out).mono ?_;rintro e w8 ⟨rfl,hb8⟩;have HG8:=Hu (HG7.out.2.trans (hb8.mono HG7.out.2.size));clear hb8;go_wp2
   all_goals first|(go_ret;exact ⟨rfl,HG8.out⟩)|exact Zx
theorem nJ {F:List Fl} {i:Nat} (hi:i<F.length) {f:Fl} (hf:F.getD i Fl.zero=f) (j:Nat) (hj:j<7) (u:Value) (f':Fl) (hu:(Fl.cells f).set j u=Fl.cells f'):((F.set i f').map Fl.cells).flatten=(F.map Fl.cells).flatten.set (i*7+j) u:=by
 rw [fP u hj (iL F) (by simpa using hi),List.map_set,← hu]
 congr 3
 rw [← hf];simp [List.getD,hi]
theorem qJ {F:List Fl} {i:Nat} (hi:i<F.length) (f:Fl):(F.set i f).getD i Fl.zero=f:=by rw [cO hi,if_pos rfl]
theorem Bp {X:Wd} {i:Nat} {f:Fl} (hf:X.flows.getD i Fl.zero=f) (k y:Int):(gQ X i k y).1=(bZ (jq X i (eK X.tab f)) f.backend).1:=by subst hf;rfl
theorem Bo {X:Wd} {i:Nat} {f:Fl} (hf:X.flows.getD i Fl.zero=f) (k y:Int) (O:List Out):O++(gQ X i k y).2=O++[⟨k,f.slot,f.gen,f.backend,0,0,y⟩]++(bZ (jq X i (eK X.tab f)) f.backend).2:=by subst hf;simp [gQ]
theorem DN {X:Wd} {i:Nat} {f:Fl} (hf:X.flows.getD i Fl.zero=f) (why:Int) (h:f.retries=X.cf.retries∨X.tok<X.cf.bd):eU X i why=gQ (bU X f.backend.toNat true) i 6 why:=by subst hf;unfold eU;simp only;rw [if_pos h]
theorem fail_b {X:Wd} {i:Nat} {f:Fl} (hf:X.flows.getD i Fl.zero=f) (why:Int) (h:¬ (f.retries=X.cf.retries∨X.tok<X.cf.bd)) (h2:(dC (bU X f.backend.toNat true) f.key.toNat f.slot).2≠0):eU X i why=gQ (bU X f.backend.toNat true) i 6 4:=by subst hf;unfold eU;simp only;rw [if_neg h,if_pos h2]
theorem fail_c {X:Wd} {i:Nat} {f:Fl} (hf:X.flows.getD i Fl.zero=f) (why:Int) (h:¬ (f.retries=X.cf.retries∨X.tok<X.cf.bd)) (h2:(dC (bU X f.backend.toNat true) f.key.toNat f.slot).2=0) :
  eU X i why=((if f.backend=(dC (bU X f.backend.toNat true) f.key.toNat f.slot).1 then (iJ (bU X f.backend.toNat true) i (dC (bU X f.backend.toNat true) f.key.toNat f.slot).1,[]) else bZ (iJ (bU X f.backend.toNat true) i (dC (bU X f.backend.toNat true) f.key.toNat f.slot).1) f.backend).1,
   ⟨5,f.slot,f.gen,(dC (bU X f.backend.toNat true) f.key.toNat f.slot).1,0,0,0⟩ :: (if f.backend=(dC (bU X f.backend.toNat true) f.key.toNat f.slot).1 then (iJ (bU X f.backend.toNat true) i (dC (bU X f.backend.toNat true) f.key.toNat f.slot).1,[]) else bZ (iJ (bU X f.backend.toNat true) i (dC (bU X f.backend.toNat true) f.key.toNat f.slot).1) f.backend).2):=by
 subst hf;unfold eU;simp only;rw [if_neg h,if_neg (fun e=>e h2)]
theorem mn {B p:Nat} {w:World} {X:Wd} {O:List Out} {S:List Nat} {V:Vs} {vo:Value} (h:G B p w X O S V vo) (hm:GwMay X) (i:Nat) (hi:i<X.flows.length) (why:Int) (hO:O.length≤800000) :
  Calls Tryz.prog 74 #[.pointer (some ⟨p,0,none⟩),.int .i64 (i:Int),.int .i64 why] w (GTo B p w S (eU X i why).1 (O++(eU X i why).2) (fun _=>True) (.tuple #[])):=by
 obtain ⟨f,hf⟩:∃ f,X.flows.getD i Fl.zero=f:=⟨_,rfl⟩
 have hfm:f∈X.flows:=by rw [← hf,aN hi];exact If hi
 have hnum:=hm.num hfm
 have hfit:=hm.fl f hfm
 have h40:=hm.len
 have A0:=GA.start h
 obtain ⟨g,cfl,ev⟩:=A0.shape (by intro e;rw [e] at hi;simp at hi)
 obtain ⟨_,hg1,hg2,hg3,hg4,hg5⟩:=A0.flow ev hi hf
 have HEf:=Hu ev
 have x18:=A0.c 18 (v:=V.f) rfl
 rw [ev] at x18
 have HX:=Hu hm
 have HFm:=Hu hfm
 have HFt:=Hu hfit
 have HF:=Hu hf
 obtain ⟨s,es,hs,hsl,n1,n2,n3,n4,n5,n6⟩:=hnum
 have HSl:=Hu hsl
 have r0:=hfit.r0
 have r1:=hfit.r1
 have hr20:X.cf.retries≤20:=by have:=hm.cf.1.2.2;omega
 have ER:Hid (eU X i why=eU X i why):=rfl
 obtain ⟨f0,f1,f2,f3,f4,f5,f6⟩:=f
 simp only at es n1 n2 n3 n4 n5 n6 r0 r1
 subst es
 obtain ⟨bk,rfl⟩:=Ih n5
 obtain ⟨ky,rfl⟩:=Ih n3
 have hbk:bk<12:=by omega
 have hky:ky<4294967296:=by omega
 have d3:w.cell? ⟨g,i*7+3,none⟩=some (.int .i64 (bk:Int)):=hg5 3 (by omega)
 have hp:=h.plt
 have i0:(0:Int)≤(i:Int):=by omega
 have i1:(i:Int)<(X.flows.length:Int):=by omega
 have HA:=Hu A0
 have HG:=Hu h
 have HN:=Hu hm.note
 clear h hm hf hfm hfit hsl A0 ev hg5
 go_enter Tryz.func74,Tryz.ntmps74
 go_wp2_with (go_at_call 77;refine (xP HG.out bk hbk true HN.out).mono ?_;rintro e w1 hc1;obtain ⟨S1,V1,vo1,rfl,A1,hq1,hz1,hb1⟩:=HA.out.call hc1;clear hc1)
 obtain ⟨X1,hX1⟩:∃ X1,X1=bU X bk true:=⟨_,rfl⟩
 have HX1:=Hu hX1
 have hm1:GwMay X1:=by rw [hX1];exact HX.out.noted hbk true
 have ef1:X1.flows=X.flows:=by rw [hX1];rfl
 have ec1:X1.cf=X.cf:=by rw [hX1];rfl
 have et1:X1.tok=X.tok:=by rw [hX1];rfl
 rw [← hX1] at A1
 have hf1:X1.flows.getD i Fl.zero=⟨(s:Int),f1,(ky:Int),(bk:Int),f4,f5,f6⟩:=by rw [ef1];exact HF.out
 have hfm1:(⟨(s:Int),f1,(ky:Int),(bk:Int),f4,f5,f6⟩:Fl)∈X1.flows:=by rw [ef1];exact HFm.out
 have hi1:i<X1.flows.length:=by rw [ef1];exact hi
 have ev1:V1.f=.slice (some ⟨g,0,none⟩) X.flows.length cfl:=by rw [show V1.f=V.f from hq1];exact HEf.out
 obtain ⟨_,k1,k2,k3,k4,k5⟩:=A1.flow ev1 hi1 hf1
 have d0:w1.cell? ⟨g,i*7+0,none⟩=some (.int .i64 (s:Int)):=k5 0 (by omega)
 have d1:w1.cell? ⟨g,i*7+1,none⟩=some (.int .i64 f1):=k5 1 (by omega)
 have d2:w1.cell? ⟨g,i*7+2,none⟩=some (.int .i64 (ky:Int)):=k5 2 (by omega)
 have d3:w1.cell? ⟨g,i*7+3,none⟩=some (.int .i64 (bk:Int)):=k5 3 (by omega)
 have d5:w1.cell? ⟨g,i*7+5,none⟩=some (.int .i64 f5):=k5 5 (by omega)
 have d6:w1.cell? ⟨g,i*7+6,none⟩=some (.int .i64 f6):=k5 6 (by omega)
 rw [Nat.add_zero] at d0
 have x8:w1.cell? ⟨p,8,none⟩=some (.int .i64 X.cf.retries):=by have:=A1.c 8 (v:=.int .i64 X1.cf.retries) rfl;rw [ec1] at this;exact this
 have x10:w1.cell? ⟨p,10,none⟩=some (.int .i64 X.cf.bn):=by have:=A1.c 10 (v:=.int .i64 X1.cf.bn) rfl;rw [ec1] at this;exact this
 have x11:w1.cell? ⟨p,11,none⟩=some (.int .i64 X.cf.bd):=by have:=A1.c 11 (v:=.int .i64 X1.cf.bd) rfl;rw [ec1] at this;exact this
 have x12:w1.cell? ⟨p,12,none⟩=some (.int .i64 X.cf.bb):=by have:=A1.c 12 (v:=.int .i64 X1.cf.bb) rfl;rw [ec1] at this;exact this
 have x7:w1.cell? ⟨p,7,none⟩=some (.int .i64 X.cf.connect):=by have:=A1.c 7 (v:=.int .i64 X1.cf.connect) rfl;rw [ec1] at this;exact this
 have x23:w1.cell? ⟨p,23,none⟩=some (.int .i64 X.tok):=by have:=A1.c 23 (v:=.int .i64 X1.tok) rfl;rw [et1] at this;exact this
 have hbud:=HX.out.cf.2.1
 have ht01:0≤X.tok∧X.tok≤X.cf.bb*X.cf.bd:=⟨HX.out.t0,HX.out.t1⟩
 have HBu:=Hu hbud
 have HT0:=Hu ht01
 have HA1:=Hu A1
 have HM1:=Hu hm1
 have HF1:=Hu hf1
 have HFm1:=Hu hfm1
 have HEv1:=Hu ev1
 have hp1:p<w1.heap.size:=A1.plt
 have HEf1:=Hu ef1
 have HEc1:=Hu ec1
 have HEt1:=Hu et1
 clear A1 hm1 hf1 hfm1 ev1 k5 ef1 ec1 et1 hX1 hbud ht01 hq1 hb1 x18
 by_cases hsp:X.tok<X.cf.bd
 ·skip
  refine Zr (fun w':World=>w'.cell? ⟨p,10,none⟩=some (.int .i64 X.cf.bn)∧w'.cell? ⟨p,11,none⟩=some (.int .i64 X.cf.bd)∧w'.cell? ⟨p,12,none⟩=some (.int .i64 X.cf.bb)∧w'.cell? ⟨p,23,none⟩=some (.int .i64 X.tok)) (fun hHeld=>?_);refine ep 0 ?_;refine df 8 ?_;refine Zt 10 ?_;refine Z2 11 15 (fun K hK=>?_) (fun K hK=>?_);(focus (go_simp;(go_at_call 122;refine (jM _ _ _ _ _ HBu.out HT0.out hsp).mono ?_;rintro e w2 ⟨rfl,hb2⟩;have hz2:=hb2.size;(try simp at hz2);(try (have bxb:=aj hb2 (cJ w1 _) (dL w1 _);have bx0:w2.cell? ⟨w1.heap.size,0,none⟩=some (.int .i64 0):=ae bxb 0;have bxf:∀ n,w2.frozen? ⟨w1.heap.size,n,none⟩=false:=ap bxb));(try dsimp only));(try go_wp2_with fail);refine Zk hK fun hHeld=>?_;clear hK K;refine df 12 ?_;refine Zt 14 ?_;refine Z1 15 (fun K hK=>?_);go_simp;refine Zk hK fun hHeld=>?_;clear hK K));rotate_left 1;(focus (go_simp;refine Zk hK fun hHeld=>?_;clear hK K;refine Z1 11 (fun K hK=>?_);go_simp;(go_at_call 122;refine (jM _ _ _ _ _ HBu.out HT0.out hsp).mono ?_;rintro e w2 ⟨rfl,hb2⟩;have hz2:=hb2.size;(try simp at hz2);(try (have bxb:=aj hb2 (cJ w1 _) (dL w1 _);have bx0:w2.cell? ⟨w1.heap.size,0,none⟩=some (.int .i64 0):=ae bxb 0;have bxf:∀ n,w2.frozen? ⟨w1.heap.size,n,none⟩=false:=ap bxb));(try dsimp only));(try go_wp2_with fail);refine Zk hK fun hHeld=>?_;clear hK K;refine df 12 ?_;refine Zt 14 ?_));rotate_left 1;(all_goals (refine Z1 16 (fun K hK=>?_);go_simp;refine Zk hK fun hHeld=>?_;clear hK K;refine Zt 17 ?_));(all_goals refine Zd ?_)
  ·skip
   refine aY _ (fun wz hwz=>?_)
   have hbz:Below w1.heap.size w1 wz:=by rw [hwz];exact (I0 (Hx (Hv _ _)) (hb2.mono (by simp))).alloc (by omega) _
   obtain ⟨nb,hnb⟩:∃ nb,nb=w2.heap.size:=⟨_,rfl⟩
   have hnz:wz.heap[nb]?=some (.cells #[.int .i64 0] 58 (0,0)):=by rw [hwz];exact az _ hnb
   have hge:w1.heap.size≤nb:=by omega
   rw [← hnb];clear hwz hnb hb2 hz2;exact Q68
  ·skip
   refine aY _ (fun wz hwz=>?_);have hba:Below w1.heap.size w1 w2:=I0 (Hx ((Hv _ _).alloc (I3 _) _)) (hb2.mono (by simp))
   have hbz:Below w1.heap.size w1 wz:=by rw [hwz];exact hba.setCell (I3 _) _
   obtain ⟨nb,hnb⟩:∃ nb,nb=w1.heap.size:=⟨_,rfl⟩
   have hnz:wz.heap[nb]?=some (.cells #[.int .i64 0] 58 (0,0)):=by rw [hwz,hnb];exact aP (j:=0) bxb (.int .i64 0)
   have hge:w1.heap.size≤nb:=by omega
   clear bx0 bxf bxb;rw [← hnb];clear hwz hnb hb2 hba hz2;exact Q68
 ·have hsp:X.cf.bd≤X.tok:=by omega
  refine Zr (fun w':World=>w'.cell? ⟨p,10,none⟩=some (.int .i64 X.cf.bn)∧w'.cell? ⟨p,11,none⟩=some (.int .i64 X.cf.bd)∧w'.cell? ⟨p,12,none⟩=some (.int .i64 X.cf.bb)∧w'.cell? ⟨p,23,none⟩=some (.int .i64 X.tok)) (fun hHeld=>?_);refine ep 0 ?_;refine df 8 ?_;refine Zt 10 ?_;refine Z2 11 15 (fun K hK=>?_) (fun K hK=>?_);(focus (go_simp;(go_at_call 122;refine (lc _ _ _ _ _ HBu.out HT0.out hsp).mono ?_;rintro e w2 ⟨rfl,hb2⟩;have hz2:=hb2.size;(try simp at hz2);(try (have bxb:=aj hb2 (cJ w1 _) (dL w1 _);have bx0:w2.cell? ⟨w1.heap.size,0,none⟩=some (.int .i64 0):=ae bxb 0;have bxf:∀ n,w2.frozen? ⟨w1.heap.size,n,none⟩=false:=ap bxb));(try dsimp only));(try go_wp2_with fail);refine Zk hK fun hHeld=>?_;clear hK K;refine df 12 ?_;refine Zt 14 ?_;refine Z1 15 (fun K hK=>?_);go_simp;refine Zk hK fun hHeld=>?_;clear hK K));rotate_left 1;(focus (go_simp;refine Zk hK fun hHeld=>?_;clear hK K;refine Z1 11 (fun K hK=>?_);go_simp;(go_at_call 122;refine (lc _ _ _ _ _ HBu.out HT0.out hsp).mono ?_;rintro e w2 ⟨rfl,hb2⟩;have hz2:=hb2.size;(try simp at hz2);(try (have bxb:=aj hb2 (cJ w1 _) (dL w1 _);have bx0:w2.cell? ⟨w1.heap.size,0,none⟩=some (.int .i64 0):=ae bxb 0;have bxf:∀ n,w2.frozen? ⟨w1.heap.size,n,none⟩=false:=ap bxb));(try dsimp only));(try go_wp2_with fail);refine Zk hK fun hHeld=>?_;clear hK K;refine df 12 ?_;refine Zt 14 ?_));rotate_left 1;(all_goals (refine Z1 16 (fun K hK=>?_);go_simp;refine Zk hK fun hHeld=>?_;clear hK K;refine Zt 17 ?_));(all_goals refine Zd ?_)
  ·skip
   refine aY _ (fun wz hwz=>?_)
   have hbz:Below w1.heap.size w1 wz:=by rw [hwz];exact (I0 (Hx (Hv _ _)) (hb2.mono (by simp))).alloc (by omega) _
   obtain ⟨nb,hnb⟩:∃ nb,nb=w2.heap.size:=⟨_,rfl⟩
   have hnz:wz.heap[nb]?=some (.cells #[.int .i64 (X.tok - X.cf.bd)] 58 (0,0)):=by rw [hwz];exact az _ hnb
   have hge:w1.heap.size≤nb:=by omega
   rw [← hnb];clear hwz hnb hb2 hz2;exact Q4
  ·skip
   refine aY _ (fun wz hwz=>?_);have hba:Below w1.heap.size w1 w2:=I0 (Hx ((Hv _ _).alloc (I3 _) _)) (hb2.mono (by simp))
   have hbz:Below w1.heap.size w1 wz:=by rw [hwz];exact hba.setCell (I3 _) _
   obtain ⟨nb,hnb⟩:∃ nb,nb=w1.heap.size:=⟨_,rfl⟩
   have hnz:wz.heap[nb]?=some (.cells #[.int .i64 (X.tok - X.cf.bd)] 58 (0,0)):=by rw [hwz,hnb];exact aP (j:=0) bxb (.int .i64 (X.tok - X.cf.bd))
   have hge:w1.heap.size≤nb:=by omega
   clear bx0 bxf bxb;rw [← hnb];clear hwz hnb hb2 hba hz2;exact Q4
end
end Go.Proofs.YtfliffgmeobclaaGreat
