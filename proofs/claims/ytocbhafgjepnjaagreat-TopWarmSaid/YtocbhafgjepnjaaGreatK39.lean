/- Texts of the row's proof. Conditions: none. -/
import Derived.Test.YtocbhafgjepnjaaGreatK38
namespace Go.Proofs.YtocbhafgjepnjaaGreat
set_option maxRecDepth 100000
set_option maxHeartbeats 8000000
section
open Go.RowKit
theorem GR_box {p:Nat} {w:World} {X:Wd} {V:Vs} {vo:Value} {T:TypeId} (h:WA w X V) (hb:w.heap[p]?=some (.cells (cQ X V++[vo]).toArray T (0,0))):GR p w X V:=by
 refine ⟨h.ro,h.fl,h.he,lt_of_block hb,fun i v hv=>?_⟩
 have hi:i<26:=by
  exact Q137
 rw [aa hb i,Io,IR (by rw [fH];exact hi),hv]
theorem Az {w:World} {X:Wd} {V:Vs} (h:WA w X V) (hm:WdMay X):Calls Tryz.prog 41 #[.agg (cQ X V).toArray] w fun e w'=>e=.returned (.bool true)∧Below w.heap.size w w':=by
 have HW:=Ib h;have HX:=Ib hm
 obtain ⟨aH,cH,eH⟩:∃ a c,V.h=.slice a (eJ X V).length c:=by obtain ⟨a,c,e,_⟩:=h.he;exact ⟨a,c,e⟩
 rw [dD h.ro.ml,hm.gw.hl] at eH;obtain ⟨aT,cT,eT,_⟩:=aj h.ro.ta.1;have RH:=Ib (show aG w 4 (.slice aH 12 cH) (eJ X V) by have:=h.he;rw [eH] at this;exact this);obtain ⟨bh,oh,hbh,hbhl,RHc⟩:∃ bh oh,aH=some ⟨bh,oh,none⟩∧bh<w.heap.size∧∀ i j,i<12→j<4→w.cell? ⟨bh,oh+i*4+j,none⟩=(rD (V.m.getD i undef) (X.health.getD i Ht.zero))[j]?:=DP RH.out HW.out.ro.ml HX.out.gw.hl;subst hbh;have HRc:=Ib RHc;have eA:(cQ X V).toArray=#[.int .i64 (X.tab.length:Int),.int .i64 X.cf.num,.int .i64 X.cf.den,.int .i64 X.cf.tries,.int .i64 X.cf.warm,.int .i64 X.cf.drain,.int .i64 X.cf.idle,.int .i64 X.cf.connect,.int .i64 X.cf.retries,.int .i64 X.cf.most,.int .i64 X.cf.bn,.int .i64 X.cf.bd,.int .i64 X.cf.bb,.int .i64 X.cf.ww,.int .i64 X.cf.wf,.int .i64 X.cf.wh,.int .i64 X.now,.slice aT X.tab.length cT,V.f,V.l,V.r,V.s,.slice (some ⟨bh,oh,none⟩) 12 cH,.int .i64 X.tok,.int .i64 X.now,V.w]:=by rw [wdA,eH,eT,hm.gw.tl,hm.gw.wn]
 have HA:=Ib eA;rw [eA]
 have hcf:j4 ⟨(X.tab.length:Int),X.cf.num,X.cf.den,X.cf.tries,X.cf.warm,X.cf.drain,X.cf.idle,X.cf.connect,X.cf.retries,X.cf.most,X.cf.bn,X.cf.bd,X.cf.bb,X.cf.ww,X.cf.wf,X.cf.wh⟩:=by rw [hm.gw.tl];exact hm.gw.cf
 have HCf:=Ib hcf;have eT2:=Ib eT;have n0:=hm.gw.n0;have n1:=hm.gw.n1;clear h hm RHc eA hcf eH eT;go_enter Tryz.func41,Tryz.ntmps41;go_wp2_with fail;refine eU _ (fun W0 hW0=>?_)
 have b0:Below w.heap.size w W0:=by rw [hW0];exact (Ic _ _).alloc (Ij _) _
 have k0:W0.heap[w.heap.size]?=some (.cells #[.int .i64 (X.tab.length:Int),.int .i64 X.cf.num,.int .i64 X.cf.den,.int .i64 X.cf.tries,.int .i64 X.cf.warm,.int .i64 X.cf.drain,.int .i64 X.cf.idle,.int .i64 X.cf.connect,.int .i64 X.cf.retries,.int .i64 X.cf.most,.int .i64 X.cf.bn,.int .i64 X.cf.bd,.int .i64 X.cf.bb,.int .i64 X.cf.ww,.int .i64 X.cf.wf,.int .i64 X.cf.wh,.int .i64 X.now,.slice aT X.tab.length cT,V.f,V.l,V.r,V.s,.slice (some ⟨bh,oh,none⟩) 12 cH,.int .i64 X.tok,.int .i64 X.now,V.w] 54 (0,0)):=by rw [hW0];exact au _ rfl
 clear hW0;refine (kg _ _ _ _ _ _ _ _ _ _ _ _ _ _ _ _ W0 HCf.out).mono ?_;rintro e w1 ⟨rfl,hb1⟩;have b1:=b0.trans (hb1.mono b0.size);have k1:=ai hb1 k0 (lt_of_block k0);have x0:=aa k1 0;have x16:=aa k1 16;have x17:=aa k1 17;simp only [Io,Im,Il] at x0 x16 x17;have l1:=lt_of_block k1;have B1:=Ib (And.intro b1 k1);clear b0 k0 hb1 b1 k1;go_wp2_with (go_at_call 66;refine (lE _ _ _ _ n0 n1).mono ?_;rintro e w2 ⟨rfl,rfl⟩);refine (eY _ X.tab _ (by have:=(HW.out.below B1.out.1).ro.ta.1;have e:=eT2.out;rw [e] at this;exact this) HX.out.gw.tb).mono ?_;rintro e w2 ⟨rfl,hb2⟩;have b1:=B1.out.1;have k1:=B1.out.2;have b2:=b1.trans (hb2.mono b1.size);have k2:=ai hb2 k1 (lt_of_block k1);have x0:=aa k2 0;have x16:=aa k2 16;have x17:=aa k2 17;have x19:=aa k2 19;have x20:=aa k2 20;have x22:=aa k2 22;simp only [Io,Im,Il] at x0 x16 x17 x19 x20 x22;have l2:=lt_of_block k2;have B2:=Ib (And.intro b2 k2);clear hb2 b1 k1 b2 k2;go_wp2_with fail;refine (kf _ _ X.lives X.reqs 0 _ (HW.out.below B2.out.1).ro.li.1 (HW.out.below B2.out.1).ro.re.1 (Or.inl ⟨HX.out.gw.bk,rfl⟩)).mono ?_;rintro e w3 ⟨rfl,hb3⟩;have b2:=B2.out.1;have k2:=B2.out.2;have b3:=b2.trans (hb3.mono b2.size);have k3:=ai hb3 k2 (lt_of_block k2);have x10:=aa k3 10;have x11:=aa k3 11;have x12:=aa k3 12;have x16:=aa k3 16;have x22:=aa k3 22;have x23:=aa k3 23;have x24:=aa k3 24;have x25:=aa k3 25;simp only [Io,Im,Il] at x10 x11 x12 x16 x22 x23 x24 x25;have l3:=lt_of_block k3;have B3:=Ib (And.intro b3 k3);have hbd:=HX.out.gw.cf.2.1;clear hb3 b2 k2 b3 k3;go_wp2_with fail;refine (jB _ _ _ _ _ hbd ⟨HX.out.gw.t0,HX.out.gw.t1⟩).mono ?_;rintro e w4 ⟨rfl,hb4⟩;have b3:=B3.out.1;have k3:=B3.out.2;have b4:=b3.trans (hb4.mono b3.size);have k4:=ai hb4 k3 (lt_of_block k3);have x16:=aa k4 16;have x24:=aa k4 24;have x25:=aa k4 25;simp only [Io,Im,Il] at x16 x24 x25;have l4:=lt_of_block k4;have B4:=Ib (And.intro b4 k4);clear hb4 b3 k3 b4 k4 hbd;go_wp2_with fail;refine dv _ (fun wc hwc=>?_)
 have bwc:Below w4.heap.size w4 wc:=by rw [hwc];exact (Ic _ _).alloc (Ij _) _
 have b5:=B4.out.1.trans (bwc.mono B4.out.1.size);have k5:=ai bwc B4.out.2 (lt_of_block B4.out.2);refine (cU V.w X.now X.lists (-1) wc (HW.out.below b5).ro.wh.at_ (by have:=gL HX.out.gw;omega) (by have:=tc HX.out;have:=HX.out.gw.len;omega) 0 [] 8 (Or.inr (Or.inl ⟨HX.out.gw.wh,fun t ht=>by have:=(HX.out.gw.wh.tm t ht).2.2.2.1;omega,rfl,rfl,rfl⟩))).mono ?_;rintro e w6 ⟨v6,rfl,R6,hb6⟩;obtain ⟨a6,c6,rfl⟩:=bI R6.at_;have b6:=b5.trans (hb6.mono b5.size);have k6:=ai hb6 k5 (lt_of_block k5);have x22:=aa k6 22;simp only [Io,Im,Il] at x22;have l6:=lt_of_block k6;have B6:=Ib (And.intro b6 k6);clear hwc bwc b5 k5 hb6 R6 b6 k6;go_wp2_with fail;refine oY _ (fun wl hwl=>?_)
 have bl:=show Below w6.heap.size w6 wl by rw [hwl];exact (Ic _ _).alloc (Ij _) _
 have S0:=Ib (And.intro (B6.out.1.trans (bl.mono B6.out.1.size)) (ai bl B6.out.2 (lt_of_block B6.out.2)));clear hwl bl x22 l6;go_loopw [81] (fun i wr=>∃ k:Nat,k≤12∧i=.int .i64 k∧Below w.heap.size w wr∧wr.heap[w.heap.size]?=some (.cells #[.int .i64 (X.tab.length:Int),.int .i64 X.cf.num,.int .i64 X.cf.den,.int .i64 X.cf.tries,.int .i64 X.cf.warm,.int .i64 X.cf.drain,.int .i64 X.cf.idle,.int .i64 X.cf.connect,.int .i64 X.cf.retries,.int .i64 X.cf.most,.int .i64 X.cf.bn,.int .i64 X.cf.bd,.int .i64 X.cf.bb,.int .i64 X.cf.ww,.int .i64 X.cf.wf,.int .i64 X.cf.wh,.int .i64 X.now,.slice aT X.tab.length cT,V.f,V.l,V.r,V.s,.slice (some ⟨bh,oh,none⟩) 12 cH,.int .i64 X.tok,.int .i64 X.now,V.w] 54 (0,0))) (fun i _=>12 - (intOf i).toNat)
 case atStart=>exact ⟨0,Ik _,rfl,S0.out.1,S0.out.2⟩
 case round=>
  obtain ⟨k,hk,rfl,hbel,hk0⟩:=hrel;have hz:=hbel.size;have l0:=lt_of_block hk0;have HB:=Ib (And.intro hbel hk0);rcases (show k<12∨k=12 by omega) with hlt|rfl
  ·have hlt':(k:Int)<12:=by omega
   have k0':(0:Int)≤(k:Int):=by omega
   have hmr:=(HW.out.below hbel).ro.mr k (by rw [HX.out.gw.hl];exact hlt);have hht:=HX.out.gw.ht k hlt;have hho:=HX.out.gw.ho k hlt;have q0:=(hbel.cell (p:=⟨bh,oh+k*4+0,none⟩) hbhl).trans (HRc.out k 0 hlt (by omega));have q1:=(hbel.cell (p:=⟨bh,oh+k*4+1,none⟩) hbhl).trans (HRc.out k 1 hlt (by omega));have q2:=(hbel.cell (p:=⟨bh,oh+k*4+2,none⟩) hbhl).trans (HRc.out k 2 hlt (by omega));have q3:=(hbel.cell (p:=⟨bh,oh+k*4+3,none⟩) hbhl).trans (HRc.out k 3 hlt (by omega));simp only [rD,Il,Im,Nat.add_zero] at q0 q1 q2 q3;obtain ⟨H,hH⟩:∃ H,H=X.health.getD k Ht.zero:=⟨_,rfl⟩;obtain ⟨mv,hmv⟩:∃ mv,mv=V.m.getD k undef:=⟨_,rfl⟩;rw [← hH] at hmr hht hho q1 q2 q3;rw [← hmv] at hmr q0;have hba:=zQ X.cf H X.now hht;obtain ⟨came,hba⟩:=hba;have hM:=(fv hht).2.2.2.1;have hwm:=(fv hht).1.2.1;obtain ⟨M2,hM2⟩:∃ M2,M2=fE X.now H:=⟨_,rfl⟩;rw [← hM2] at hba;obtain ⟨am,cm,rfl,_⟩:=fg hmr.1;have HMr:=Ib hmr.1;have HBa:=Ib hba;obtain ⟨M_,o_,u_,t_⟩:=H;obtain ⟨N_,o2,u2',t2⟩:=M2;have HHo:=Ib hho;have x13:=aa hk0 13;have x14:=aa hk0 14;have x15:=aa hk0 15;have x16:=aa hk0 16;simp only [Io,Im,Il] at x13 x14 x15 x16;simp only at q1 q2 q3 hM;clear hmr hht hho hba hM2 hH hmv hbel hk0;go_wp2_with fail;refine dv _ (fun wc hwc=>?_)
   have bwc:Below wr.heap.size wr wc:=by rw [hwc];exact (Ic _ _).alloc (Ij _) _
   have hh:wc.heap[wr.heap.size]?=some (.cells #[.slice am M_.length cm,.bool o_,.int .i64 u_,.int .i64 t_] 71 (0,0)):=by rw [hwc];exact au _ rfl
   refine (qa _ _ _ M_ o_ u_ t_ X.now N_ o2 u2' t2 came 0 _ wc (aq HMr.out bwc) (by omega) HBa.out).mono ?_;rintro e w5 ⟨v5,rfl,R5,hb5⟩;obtain ⟨a5,c5,rfl,_⟩:=fg R5.1;have bw5:=bwc.trans (hb5.mono bwc.size);have h5:=ai hb5 hh (lt_of_block hh);have p1:w5.cell? ⟨wr.heap.size,1,none⟩=some (.bool o_):=aa h5 1;have p2:w5.cell? ⟨wr.heap.size,2,none⟩=some (.int .i64 u_):=aa h5 2;have hk5:=ai bw5 HB.out.2 l0;have x16:=aa hk5 16;simp only [Io,Im,Il] at x16;have l5:=lt_of_block h5;have l5':=lt_of_block hk5;have H5:=Ib (And.intro (HB.out.1.trans (bw5.mono HB.out.1.size)) hk5);clear hwc bwc hh R5 hb5 bw5 h5 hk5 q0 q1 q2 q3 x13 x14 x15
   cases o_ with
   | false=>
    exact Q108
   | true=>
    have hu:decide (u_≤X.now)=false:=by have:=HHo.out rfl;simp;omega
    have hu':¬ u_≤X.now:=by simpa using hu
    exact Q108
  ·have hge:¬ ((12:Nat):Int)<12:=by omega
   obtain ⟨AW,hAW⟩:∃ AW,AW=(cQ X V).toArray:=⟨_,rfl⟩;obtain ⟨AZ,hAZ⟩:∃ AZ,AZ=(cQ X V++[Value.slice none 0 0]).toArray:=⟨_,rfl⟩;have HK:=Ib (show wr.heap[w.heap.size]?=some (.cells AW 54 (0,0)) by rw [hAW,HA.out];exact hk0);have HI:=Ib (show (Tryz.prog.info? 54).map (·.size)=some AW.size by rw [hAW];kernel_rfl);have HAZ:=Ib hAZ;have HAW:=Ib hAW
   have hsz:AW.size=26:=by rw [hAW];rfl
   have HWr:=Ib (HW.out.below hbel);clear hbel hk0 hAW hAZ;go_wp2_with (refine t7 rfl 54 (.tmp 1) rfl w.heap.size rfl 54 AW (0,0) _ HK.out Tryz.underlying54 rfl HI.out ?_);refine dv _ (fun wc hwc=>?_)
   have hwc':wc=wr.alloc (.cells AZ 126 (0,0)):=by
    rw [hwc,HAZ.out,HAW.out]
    kernel_rfl
   have bwc:Below wr.heap.size wr wc:=by rw [hwc'];exact (Ic _ _).alloc (Ij _) _
   have hg:=GR_box (p:=wr.heap.size) (T:=126) (vo:=.slice none 0 0) (HWr.out.below bwc) (by rw [hwc',HAZ.out];exact au _ rfl);have HG:=Ib (And.intro hg (HB.out.1.trans (bwc.mono HB.out.1.size)));clear hwc hwc' bwc hg;refine (uX HG.out.1 HX.out).mono ?_;rintro e w7 ⟨rfl,hb7⟩;have HG7:=Ib (And.intro (fJ HG.out.1 hb7) (HG.out.2.trans (hb7.mono HG.out.2.size)));clear hb7;go_wp2_with fail;refine (uW HG7.out.1 HX.out).mono ?_;rintro e w8 ⟨rfl,hb8⟩;have HG8:=Ib (HG7.out.2.trans (hb8.mono HG7.out.2.size));clear hb8;go_wp2
   all_goals first|(go_ret;exact ⟨rfl,HG8.out⟩)|exact Zx
theorem nC {F:List Fl} {i:Nat} (hi:i<F.length) {f:Fl} (hf:F.getD i Fl.zero=f) (j:Nat) (hj:j<7) (u:Value) (f':Fl) (hu:(Fl.cells f).set j u=Fl.cells f'):((F.set i f').map Fl.cells).flatten=(F.map Fl.cells).flatten.set (i*7+j) u:=by
 rw [fN u hj (iH F) (by simpa using hi),List.map_set,← hu]
 congr 3
 rw [← hf];simp [List.getD,hi]
theorem qF {F:List Fl} {i:Nat} (hi:i<F.length) (f:Fl):(F.set i f).getD i Fl.zero=f:=by rw [cJ hi,if_pos rfl]
theorem By {X:Wd} {i:Nat} {f:Fl} (hf:X.flows.getD i Fl.zero=f) (k y:Int):(g9 X i k y).1=(bP (iJ X i (dQ X.tab f)) f.backend).1:=by subst hf;rfl
theorem Bv {X:Wd} {i:Nat} {f:Fl} (hf:X.flows.getD i Fl.zero=f) (k y:Int) (O:List Out):O++(g9 X i k y).2=O++[⟨k,f.slot,f.gen,f.backend,0,0,y⟩]++(bP (iJ X i (dQ X.tab f)) f.backend).2:=by subst hf;simp [g9]
theorem E3 {X:Wd} {i:Nat} {f:Fl} (hf:X.flows.getD i Fl.zero=f) (why:Int) (h:f.retries=X.cf.retries∨X.tok<X.cf.bd):eu X i why=g9 (bO X f.backend.toNat true) i 6 why:=by subst hf;unfold eu;simp only;rw [if_pos h]
theorem fail_b {X:Wd} {i:Nat} {f:Fl} (hf:X.flows.getD i Fl.zero=f) (why:Int) (h:¬ (f.retries=X.cf.retries∨X.tok<X.cf.bd)) (h2:(dp (bO X f.backend.toNat true) f.key.toNat f.slot).2≠0):eu X i why=g9 (bO X f.backend.toNat true) i 6 4:=by subst hf;unfold eu;simp only;rw [if_neg h,if_pos h2]
theorem fail_c {X:Wd} {i:Nat} {f:Fl} (hf:X.flows.getD i Fl.zero=f) (why:Int) (h:¬ (f.retries=X.cf.retries∨X.tok<X.cf.bd)) (h2:(dp (bO X f.backend.toNat true) f.key.toNat f.slot).2=0) :
  eu X i why=((if f.backend=(dp (bO X f.backend.toNat true) f.key.toNat f.slot).1 then (fZ (bO X f.backend.toNat true) i (dp (bO X f.backend.toNat true) f.key.toNat f.slot).1,[]) else bP (fZ (bO X f.backend.toNat true) i (dp (bO X f.backend.toNat true) f.key.toNat f.slot).1) f.backend).1,
   ⟨5,f.slot,f.gen,(dp (bO X f.backend.toNat true) f.key.toNat f.slot).1,0,0,0⟩ :: (if f.backend=(dp (bO X f.backend.toNat true) f.key.toNat f.slot).1 then (fZ (bO X f.backend.toNat true) i (dp (bO X f.backend.toNat true) f.key.toNat f.slot).1,[]) else bP (fZ (bO X f.backend.toNat true) i (dp (bO X f.backend.toNat true) f.key.toNat f.slot).1) f.backend).2):=by
 subst hf;unfold eu;simp only;rw [if_neg h,if_neg (fun e=>e h2)]
theorem mj {B p:Nat} {w:World} {X:Wd} {O:List Out} {S:List Nat} {V:Vs} {vo:Value} (h:G B p w X O S V vo) (hm:GwMay X) (i:Nat) (hi:i<X.flows.length) (why:Int) (hO:O.length≤800000) :
  Calls Tryz.prog 100 #[.pointer (some ⟨p,0,none⟩),.int .i64 (i:Int),.int .i64 why] w (GTo B p w S (eu X i why).1 (O++(eu X i why).2) (fun _=>True) (.tuple #[])):=by
 obtain ⟨f,hf⟩:∃ f,X.flows.getD i Fl.zero=f:=⟨_,rfl⟩
 have hfm:f∈X.flows:=by rw [← hf,aK hi];exact Iw hi
 have hnum:=hm.num hfm
 have hfit:=hm.fl f hfm
 have h40:=hm.len
 have A0:=GA.start h
 obtain ⟨g,cfl,ev⟩:=A0.shape (by intro e;rw [e] at hi;simp at hi)
 obtain ⟨_,hg1,hg2,hg3,hg4,hg5⟩:=A0.flow ev hi hf
 have HEf:=Ib ev
 have x18:=A0.c 18 (v:=V.f) rfl
 rw [ev] at x18
 have HX:=Ib hm
 have HFm:=Ib hfm
 have HFt:=Ib hfit
 have HF:=Ib hf
 obtain ⟨s,es,hs,hsl,n1,n2,n3,n4,n5,n6⟩:=hnum
 have HSl:=Ib hsl
 have r0:=hfit.r0
 have r1:=hfit.r1
 have hr20:X.cf.retries≤20:=by have:=hm.cf.1.2.2;omega
 have ER:Hid (eu X i why=eu X i why):=rfl
 obtain ⟨f0,f1,f2,f3,f4,f5,f6⟩:=f
 simp only at es n1 n2 n3 n4 n5 n6 r0 r1
 subst es
 obtain ⟨bk,rfl⟩:=Iy n5
 obtain ⟨ky,rfl⟩:=Iy n3
 have hbk:bk<12:=by omega
 have hky:ky<4294967296:=by omega
 have d3:w.cell? ⟨g,i*7+3,none⟩=some (.int .i64 (bk:Int)):=hg5 3 (by omega)
 have hp:=h.plt
 have i0:(0:Int)≤(i:Int):=by omega
 have i1:(i:Int)<(X.flows.length:Int):=by omega
 have HA:=Ib A0
 have HG:=Ib h
 have HN:=Ib hm.note
 clear h hm hf hfm hfit hsl A0 ev hg5
 go_enter Tryz.func100,Tryz.ntmps100
 go_wp2_with (go_at_call 103;refine (xP HG.out bk hbk true HN.out).mono ?_;rintro e w1 hc1;obtain ⟨S1,V1,vo1,rfl,A1,hq1,hz1,hb1⟩:=HA.out.call hc1;clear hc1)
 obtain ⟨X1,hX1⟩:∃ X1,X1=bO X bk true:=⟨_,rfl⟩
 have HX1:=Ib hX1
 have hm1:GwMay X1:=by rw [hX1];exact HX.out.noted hbk true
 have ef1:X1.flows=X.flows:=by rw [hX1];rfl
 have ec1:X1.cf=X.cf:=by rw [hX1];rfl
 have et1:X1.tok=X.tok:=by rw [hX1];rfl
 rw [← hX1] at A1
 have hf1:X1.flows.getD i Fl.zero=⟨(s:Int),f1,(ky:Int),(bk:Int),f4,f5,f6⟩:=by rw [ef1];exact HF.out
 have hfm1:(⟨(s:Int),f1,(ky:Int),(bk:Int),f4,f5,f6⟩:Fl)∈X1.flows:=by rw [ef1];exact HFm.out
 have hi1:i<X1.flows.length:=by rw [ef1];exact hi
 have ev1:V1.f=.slice (some ⟨g,0,none⟩) X.flows.length cfl:=by rw [show V1.f=V.f from hq1];exact HEf.out
 obtain ⟨_,k1,k2,k3,k4,k5⟩:=A1.flow ev1 hi1 hf1
 have d0:w1.cell? ⟨g,i*7+0,none⟩=some (.int .i64 (s:Int)):=k5 0 (by omega)
 have d1:w1.cell? ⟨g,i*7+1,none⟩=some (.int .i64 f1):=k5 1 (by omega)
 have d2:w1.cell? ⟨g,i*7+2,none⟩=some (.int .i64 (ky:Int)):=k5 2 (by omega)
 have d3:w1.cell? ⟨g,i*7+3,none⟩=some (.int .i64 (bk:Int)):=k5 3 (by omega)
 have d5:w1.cell? ⟨g,i*7+5,none⟩=some (.int .i64 f5):=k5 5 (by omega)
 have d6:w1.cell? ⟨g,i*7+6,none⟩=some (.int .i64 f6):=k5 6 (by omega)
 rw [Nat.add_zero] at d0
 have x8:w1.cell? ⟨p,8,none⟩=some (.int .i64 X.cf.retries):=by have:=A1.c 8 (v:=.int .i64 X1.cf.retries) rfl;rw [ec1] at this;exact this
 have x10:w1.cell? ⟨p,10,none⟩=some (.int .i64 X.cf.bn):=by have:=A1.c 10 (v:=.int .i64 X1.cf.bn) rfl;rw [ec1] at this;exact this
 have x11:w1.cell? ⟨p,11,none⟩=some (.int .i64 X.cf.bd):=by have:=A1.c 11 (v:=.int .i64 X1.cf.bd) rfl;rw [ec1] at this;exact this
 have x12:w1.cell? ⟨p,12,none⟩=some (.int .i64 X.cf.bb):=by have:=A1.c 12 (v:=.int .i64 X1.cf.bb) rfl;rw [ec1] at this;exact this
 have x7:w1.cell? ⟨p,7,none⟩=some (.int .i64 X.cf.connect):=by have:=A1.c 7 (v:=.int .i64 X1.cf.connect) rfl;rw [ec1] at this;exact this
 have x23:w1.cell? ⟨p,23,none⟩=some (.int .i64 X.tok):=by have:=A1.c 23 (v:=.int .i64 X1.tok) rfl;rw [et1] at this;exact this
 have hbud:=HX.out.cf.2.1
 have ht01:0≤X.tok∧X.tok≤X.cf.bb*X.cf.bd:=⟨HX.out.t0,HX.out.t1⟩
 have HBu:=Ib hbud
 have HT0:=Ib ht01
 have HA1:=Ib A1
 have HM1:=Ib hm1
 have HF1:=Ib hf1
 have HFm1:=Ib hfm1
 have HEv1:=Ib ev1
 have hp1:p<w1.heap.size:=A1.plt
 have HEf1:=Ib ef1
 have HEc1:=Ib ec1
 have HEt1:=Ib et1
 clear A1 hm1 hf1 hfm1 ev1 k5 ef1 ec1 et1 hX1 hbud ht01 hq1 hb1 x18
 by_cases hsp:X.tok<X.cf.bd
 ·skip
  refine Zr (fun w':World=>w'.cell? ⟨p,10,none⟩=some (.int .i64 X.cf.bn)∧w'.cell? ⟨p,11,none⟩=some (.int .i64 X.cf.bd)∧w'.cell? ⟨p,12,none⟩=some (.int .i64 X.cf.bb)∧w'.cell? ⟨p,23,none⟩=some (.int .i64 X.tok)) (fun hHeld=>?_);refine eB 0 ?_;refine dd 8 ?_;refine Zt 10 ?_;refine Z2 11 15 (fun K hK=>?_) (fun K hK=>?_);(focus (go_simp;(go_at_call 147;refine (jO _ _ _ _ _ HBu.out HT0.out hsp).mono ?_;rintro e w2 ⟨rfl,hb2⟩;have hz2:=hb2.size;(try simp at hz2);(try (have bxb:=ai hb2 (cE w1 _) (dL w1 _);have bx0:w2.cell? ⟨w1.heap.size,0,none⟩=some (.int .i64 0):=aa bxb 0;have bxf:∀ n,w2.frozen? ⟨w1.heap.size,n,none⟩=false:=ap bxb));(try dsimp only));(try go_wp2_with fail);refine Zk hK fun hHeld=>?_;clear hK K;refine dd 12 ?_;refine Zt 14 ?_;refine Z1 15 (fun K hK=>?_);go_simp;refine Zk hK fun hHeld=>?_;clear hK K));rotate_left 1;(focus (go_simp;refine Zk hK fun hHeld=>?_;clear hK K;refine Z1 11 (fun K hK=>?_);go_simp;(go_at_call 147;refine (jO _ _ _ _ _ HBu.out HT0.out hsp).mono ?_;rintro e w2 ⟨rfl,hb2⟩;have hz2:=hb2.size;(try simp at hz2);(try (have bxb:=ai hb2 (cE w1 _) (dL w1 _);have bx0:w2.cell? ⟨w1.heap.size,0,none⟩=some (.int .i64 0):=aa bxb 0;have bxf:∀ n,w2.frozen? ⟨w1.heap.size,n,none⟩=false:=ap bxb));(try dsimp only));(try go_wp2_with fail);refine Zk hK fun hHeld=>?_;clear hK K;refine dd 12 ?_;refine Zt 14 ?_));rotate_left 1;(all_goals (refine Z1 16 (fun K hK=>?_);go_simp;refine Zk hK fun hHeld=>?_;clear hK K;refine Zt 17 ?_));(all_goals refine Zd ?_)
  ·skip
   refine aW _ (fun wz hwz=>?_)
   have hbz:Below w1.heap.size w1 wz:=by rw [hwz];exact (Ig (Id (Ic _ _)) (hb2.mono (by simp))).alloc (by omega) _
   obtain ⟨nb,hnb⟩:∃ nb,nb=w2.heap.size:=⟨_,rfl⟩
   have hnz:wz.heap[nb]?=some (.cells #[.int .i64 0] 49 (0,0)):=by rw [hwz];exact au _ hnb
   have hge:w1.heap.size≤nb:=by omega
   rw [← hnb];clear hwz hnb hb2 hz2;exact Q68
  ·skip
   refine aW _ (fun wz hwz=>?_);have hba:Below w1.heap.size w1 w2:=Ig (Id ((Ic _ _).alloc (Ij _) _)) (hb2.mono (by simp))
   have hbz:Below w1.heap.size w1 wz:=by rw [hwz];exact hba.setCell (Ij _) _
   obtain ⟨nb,hnb⟩:∃ nb,nb=w1.heap.size:=⟨_,rfl⟩
   have hnz:wz.heap[nb]?=some (.cells #[.int .i64 0] 49 (0,0)):=by rw [hwz,hnb];exact aP (j:=0) bxb (.int .i64 0)
   have hge:w1.heap.size≤nb:=by omega
   clear bx0 bxf bxb;rw [← hnb];clear hwz hnb hb2 hba hz2;exact Q68
 ·have hsp:X.cf.bd≤X.tok:=by omega
  refine Zr (fun w':World=>w'.cell? ⟨p,10,none⟩=some (.int .i64 X.cf.bn)∧w'.cell? ⟨p,11,none⟩=some (.int .i64 X.cf.bd)∧w'.cell? ⟨p,12,none⟩=some (.int .i64 X.cf.bb)∧w'.cell? ⟨p,23,none⟩=some (.int .i64 X.tok)) (fun hHeld=>?_);refine eB 0 ?_;refine dd 8 ?_;refine Zt 10 ?_;refine Z2 11 15 (fun K hK=>?_) (fun K hK=>?_);(focus (go_simp;(go_at_call 147;refine (lj _ _ _ _ _ HBu.out HT0.out hsp).mono ?_;rintro e w2 ⟨rfl,hb2⟩;have hz2:=hb2.size;(try simp at hz2);(try (have bxb:=ai hb2 (cE w1 _) (dL w1 _);have bx0:w2.cell? ⟨w1.heap.size,0,none⟩=some (.int .i64 0):=aa bxb 0;have bxf:∀ n,w2.frozen? ⟨w1.heap.size,n,none⟩=false:=ap bxb));(try dsimp only));(try go_wp2_with fail);refine Zk hK fun hHeld=>?_;clear hK K;refine dd 12 ?_;refine Zt 14 ?_;refine Z1 15 (fun K hK=>?_);go_simp;refine Zk hK fun hHeld=>?_;clear hK K));rotate_left 1;(focus (go_simp;refine Zk hK fun hHeld=>?_;clear hK K;refine Z1 11 (fun K hK=>?_);go_simp;(go_at_call 147;refine (lj _ _ _ _ _ HBu.out HT0.out hsp).mono ?_;rintro e w2 ⟨rfl,hb2⟩;have hz2:=hb2.size;(try simp at hz2);(try (have bxb:=ai hb2 (cE w1 _) (dL w1 _);have bx0:w2.cell? ⟨w1.heap.size,0,none⟩=some (.int .i64 0):=aa bxb 0;have bxf:∀ n,w2.frozen? ⟨w1.heap.size,n,none⟩=false:=ap bxb));(try dsimp only));(try go_wp2_with fail);refine Zk hK fun hHeld=>?_;clear hK K;refine dd 12 ?_;refine Zt 14 ?_));rotate_left 1;(all_goals (refine Z1 16 (fun K hK=>?_);go_simp;refine Zk hK fun hHeld=>?_;clear hK K;refine Zt 17 ?_));(all_goals refine Zd ?_)
  ·skip
   refine aW _ (fun wz hwz=>?_)
   have hbz:Below w1.heap.size w1 wz:=by rw [hwz];exact (Ig (Id (Ic _ _)) (hb2.mono (by simp))).alloc (by omega) _
   obtain ⟨nb,hnb⟩:∃ nb,nb=w2.heap.size:=⟨_,rfl⟩
   have hnz:wz.heap[nb]?=some (.cells #[.int .i64 (X.tok - X.cf.bd)] 49 (0,0)):=by rw [hwz];exact au _ hnb
   have hge:w1.heap.size≤nb:=by omega
   rw [← hnb];clear hwz hnb hb2 hz2;exact Q4
  ·skip
   refine aW _ (fun wz hwz=>?_);have hba:Below w1.heap.size w1 w2:=Ig (Id ((Ic _ _).alloc (Ij _) _)) (hb2.mono (by simp))
   have hbz:Below w1.heap.size w1 wz:=by rw [hwz];exact hba.setCell (Ij _) _
   obtain ⟨nb,hnb⟩:∃ nb,nb=w1.heap.size:=⟨_,rfl⟩
   have hnz:wz.heap[nb]?=some (.cells #[.int .i64 (X.tok - X.cf.bd)] 49 (0,0)):=by rw [hwz,hnb];exact aP (j:=0) bxb (.int .i64 (X.tok - X.cf.bd))
   have hge:w1.heap.size≤nb:=by omega
   clear bx0 bxf bxb;rw [← hnb];clear hwz hnb hb2 hba hz2;exact Q4
end
end Go.Proofs.YtocbhafgjepnjaaGreat
