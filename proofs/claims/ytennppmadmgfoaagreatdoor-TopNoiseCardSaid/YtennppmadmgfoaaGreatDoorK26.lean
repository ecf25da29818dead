/- Texts of the row's proof. Conditions: none. -/
import Derived.Test.YtennppmadmgfoaaGreatDoorK25
namespace Go.Proofs.YtennppmadmgfoaaGreatDoor
open Proofs.Tryz
set_option maxRecDepth 100000
set_option maxHeartbeats 8000000
section
open Go.RowKit
theorem Ge:(prog.info? 154).map (fun i=>(i.zero,i.size,i.bytes))=some (some (.agg #[.int .i64 0,.int .i64 0,.int .i64 0]),3,24):=by kernel_rfl
theorem ld_len (L:List Ld):∀ c∈L.map Ld.cells,c.length=3:=by
 exact Q28
theorem J9 (L:List Ld) (x:Ld):((L++[x]).map Ld.cells).flatten=(L.map Ld.cells).flatten++x.cells:=by
 rw [LG,Lv];simp
def zD (X:Wd) (but:Int) (b:Int):Bool:=decide (0<=but) && ((X.tab.getD but.toNat Sl.zero).backend == b)
def rL (X:Wd) (but:Int) (b:Int):Int:=(il X.tab X.tab.length).getD b.toNat 0 - if zD X but b=true then 1 else 0
def rK (X:Wd) (x:Lf):Int:=if rA X.health x.backend=true then 0 else ip x.weight (X.now - x.since) X.cf.warm
def xO (X:Wd) (but:Int) (x:Lf):Ld:=⟨x.backend,rK X x,rL X but x.backend⟩
def iZ (X:Wd) (but:Int) (k:Nat):List Ld:=((X.lives.take k).filter fun x=>x.state == 2).map (xO X but)
def fu (X:Wd) (but:Int):List Ld:=(X.lives.filter fun x=>x.state == 2).map (xO X but)
theorem Fs (X:Wd) (but:Int):iZ X but X.lives.length=fu X but:=by unfold iZ fu;rw [Lo (KY _)]
theorem Fq (X:Wd) (but:Int) (k:Nat):(iZ X but k).length<=k:=by
 unfold iZ;rw [Lh];exact Lz (List.length_filter_le _ _) (List.length_take_le _ _)
theorem Fp {X:Wd} {but:Int} {k:Nat} {x:Lf} (hx:x=X.lives.getD k Lf.zero) (hk:k<X.lives.length) (h:x.state=2):iZ X but (k+1)=iZ X but k++[xO X but x]:=by
 exact Q100
theorem J8 {X:Wd} {but:Int} {k:Nat} {x:Lf} (hx:x=X.lives.getD k Lf.zero) (hk:k<X.lives.length) (h:¬ x.state=2):iZ X but (k+1)=iZ X but k:=by
 exact Q100
structure vU (X:Wd) (but:Int):Prop where
 bk:bJ X.lives X.reqs
 hl:X.health.length=12
 tb:dR X.tab
 w0:0<=X.cf.warm
 w1:X.cf.warm<=500
 n1:X.now<=1099511627776
 si:∀ i,i<X.lives.length->(X.lives.getD i Lf.zero).since<=X.now
 bu:but<X.tab.length
def LdRel (w wr:World) (L:List Ld) (l:Value):Prop:=Below w.heap.size w wr/\∃ a h,l=.slice a L.length h/\wr.ownsRow w.heap.size 154 3 (.slice a L.length h) L.length (L.map Ld.cells).flatten
theorem pn {p:Nat} {w:World} {X:Wd} {V:Vs} (h:GR p w X V) (but:Int) (hm:vU X but) :
  Calls prog 102 #[.pointer (some ⟨p,0,none⟩),.int .i64 but] w (K8 w 3 ((fu X but).map Ld.cells)):=by
 obtain ⟨i0,hi,aF,aH,aL⟩:=info_parts Ge
 have aA:=h.c 17 (v:=V.t) rfl
 have bz:=h.c 19 (v:=V.l) rfl
 have ag:=h.c 22 (v:=V.h) rfl
 have am:=h.c 16 (v:=.int .i64 X.now) rfl
 have x4:=h.c 4 (v:=.int .i64 X.cf.warm) rfl
 have hp:=h.2.2.2.1
 obtain ⟨bt,ot,ct,et,bW,c2⟩:∃ bt ot ct,V.t=.slice (some ⟨bt,ot,none⟩) X.tab.length ct/\bt<w.heap.size/\∀ i j,i<X.tab.length->j<4->w.cell? ⟨bt,ot+i*4+j,none⟩=(X.tab.getD i Sl.zero).cells[j]?:=by
  obtain ⟨a,c,e,_,_,_,q⟩:=aO Sl.zero h.1.ta.1;obtain ⟨b,o,rfl,hb,hq⟩:=q (by intro e;have:=hm.tb.1;rw [e] at this;simp at this);exact ⟨b,o,c,e,hb,hq⟩
 obtain ⟨bh,oh,ch,eh,cg,c1⟩:∃ bh oh ch,V.h=.slice (some ⟨bh,oh,none⟩) 12 ch/\bh<w.heap.size/\∀ i j,i<12->j<4->w.cell? ⟨bh,oh+i*4+j,none⟩=(wD (V.m.getD i undef) (X.health.getD i Ht.zero))[j]?:=by
  obtain ⟨a,c,e,_,_,_,q⟩:=h.2.2.1;have hl:=eC h.1.ml;rw [hm.hl] at hl;obtain ⟨b,o,rfl,hb,hq⟩:=q (by intro e;rw [e] at hl;simp at hl);rw [hl] at e;exact ⟨b,o,c,e,hb,fun i j hi hj=>by rw [hq i j (by omega) hj,lE h.1.ml (by rw [hm.hl];exact hi)]⟩
 obtain ⟨al,cl,el,_⟩:=ap h.1.li.1
 rw [et] at aA
 rw [el] at bz
 rw [eh] at ag
 have HLv:=KL h.1.li.1
 rw [el] at HLv
 have bE:=KL h.1.ta.1
 rw [et] at bE
 have HM:=KL hm
 have bC:=KL c2
 have cb:=KL c1
 have hL:=hm.bk.1
 have w0:=hm.w0
 have w1:=hm.w1
 have n1:=hm.n1
 have bu:=hm.bu
 have ht:=hm.tb.2.1
 have hn:¬ X.lives.length=0->∃ bl ol,al=some ⟨bl,ol,none⟩/\bl<w.heap.size/\∀ k j,k<X.lives.length->j<6->w.cell? ⟨bl,ol+k*6+j,none⟩=(X.lives.getD k Lf.zero).cells[j]?:=fun hne=>by
  exact Q88
 have HN:=KL hn
 clear h hm c2 c1 et eh el hn
 go_in
 go_wp2_with (go_at_call 97;refine (jY bt ot ct X.tab _ bW HM.out.tb bE.out bC.out).mono ?_;rintro e wc ⟨vc,rfl,Rc,an⟩;obtain ⟨ac,cc,ec,_⟩:=ap Rc.1;rw [gW] at ec;subst ec;have bz:=ah an bz hp)
 have bi:=gW X.tab X.tab.length
 obtain ⟨bc,oc,rfl,cd,c0⟩:∃ bc oc,ac=some ⟨bc,oc,none⟩/\bc<wc.heap.size/\∀ i,i<12->wc.cell? ⟨bc,oc+i,none⟩=some (.int .i64 ((il X.tab X.tab.length).getD i 0)):=by
  obtain ⟨_,_,e0,_,_,_,pt⟩:=aO (0:Int) Rc.1;injection e0 with e01 _ _;obtain ⟨b1,o1,e1,h1,q⟩:=pt (by intro e;rw [e] at bi;simp at bi);refine ⟨b1,o1,e01.trans e1,h1,fun i hi=>?_⟩;have:=q i 0 (by omega) (by omega);rw [Nat.mul_one,Nat.add_zero] at this;exact this
 have bk:p<wc.heap.size:=by have:=an.size;omega
 have cu:=an.size
 have bb:=KL an
 have ag:=ah an ag hp
 have am:=ah an am hp
 have x4:=ah an x4 hp
 have aA:=ah an aA hp
 have ca:=KL c0
 have cy:=KL bi
 clear an c0 Rc bi
 go_loopw [7,27] (fun l i wr=>∃ k:Nat,k<=X.lives.length/\i=.int .i64 k/\LdRel wc wr (iZ X but k) l) (fun _ i _=>X.lives.length - (intOf i).toNat)
 case atStart=>exact ⟨0,La _,rfl,KM _ _,none,0,rfl,LJ _ _ _ _⟩
 case round=>
  obtain ⟨k,hk,rfl,ad,a,bT,rfl,hown⟩:=hrel;have ay:=ad.size;have ak:p<wr.heap.size:=by omega
  have cA:=Fq X but k;rcases (show k<X.lives.length\/X.lives.length=k by omega) with aT|co
  ·have cK:(k:Int)<(X.lives.length:Int):=by omega
   have ag:=ah ad ag bk;have am:=ah ad am bk;have x4:=ah ad x4 bk;have aA:=ah ad aA bk;obtain ⟨bl,ol,rfl,ck,q⟩:=HN.out (by omega);have b9:=HM.out.si k aT;have ax:=(HM.out.bk.2.2.1 k aT).1;obtain ⟨s,hs⟩:∃ s,s=X.lives.getD k Lf.zero:=⟨_,rfl⟩
   have hold:∀ j,j<6->wr.cell? ⟨bl,ol+k*6+j,none⟩=s.cells[j]?:=fun j hj=>by rw [ad.cell (p:=⟨bl,ol+k*6+j,none⟩) (by show bl<_;omega),bb.out.cell (p:=⟨bl,ol+k*6+j,none⟩) ck,hs];exact q k j aT hj
   rw [<- hs] at b9 ax;have bX:¬ s.state=2->iZ X but (k+1)=iZ X but k:=fun h=>J8 hs aT h;have c5:s.state=2->iZ X but (k+1)=iZ X but k++[xO X but s]:=fun h=>Fp hs aT h;have c9:=KL bX;have HYe:=KL c5;obtain ⟨s0,s1,Y,Z,s4,s5⟩:=s;have r0:=ax.1;have r1:=ax.2.1;have r2:=ax.2.2.1;have r3:=ax.2.2.2.1;have r4:=ax.2.2.2.2.1;simp only at r0 r1 r2 r3 r4 b9;obtain ⟨z,rfl⟩:=Lr r0;have rn:z<12:=by omega
   have d0:(z:Int)<12:=by omega
   have a0:=hold 0 (by omega);have a1:=hold 1 (by omega);have a2:=hold 2 (by omega);have a3:=hold 3 (by omega);have a4:=hold 4 (by omega);have a5:=hold 5 (by omega);simp only [Lf.cells,Lb,Lc,Nat.add_zero] at a0 a1 a2 a3 a4 a5;have bs:bh<wr.heap.size:=by omega
   have cm:bt<wr.heap.size:=by omega
   have cf:bc<wr.heap.size:=by omega
   have ao:=ah ad (ah bb.out (cb.out z 1 rn (by omega)) cg) (by omega);obtain ⟨t,ht⟩:∃ t,t=(X.health.getD z Ht.zero).out:=⟨_,rfl⟩
   have c4:rA X.health (z:Int)=t:=by unfold rA;rw [Lm,ht]
   rw [<- ht] at ao;obtain ⟨cn,bf⟩:∃ cn,cn=(il X.tab X.tab.length).getD z 0:=⟨_,rfl⟩;have ac:=ah ad (ca.out z rn) cd;rw [<- bf] at ac
   obtain ⟨cC,cF⟩:0<=cn/\cn<=40:=by
    have e:=kQ X.tab X.tab.length z rn
    have e2:cn=((j8 X.tab (z:Nat) X.tab.length).length:Int):=by rw [bf];simp only [List.getD,e,LI]
    have:=lc X.tab (z:Nat) X.tab.length;omega
   have HB:=KL ad;have HT:=KL c4;have HC:=KL bf;have HO:=KL hown;clear hold hs q ax ht c4 bf bX c5 ad hown;by_cases hst:s1=2
   ·subst hst;go_wp2_with fail;refine bA _ (fun wx bm=>?_)
    have aS:Below wr.heap.size wr wx:=by rw [bm];exact (KM _ _).alloc (KY _) _
    have zx:wr.heap.size<wx.heap.size:=by rw [bm];simp
    obtain ⟨bx,bd⟩:∃ bx,bx=wr.heap.size:=⟨_,rfl⟩
    have af:wx.heap[bx]?=some (.cells #[.int .i64 (z:Int),.int .i64 2,.int .i64 Y,.int .i64 Z,.int .i64 s4,.int .i64 s5] 173 (0,0)):=by rw [bm];exact aB _ bd
    rw [<- bd];have y0:wx.cell? ⟨bx,0,none⟩=some (.int .i64 (z:Int)):=ae af 0;have ac:=ah aS ac cf;have lx:bx<wx.heap.size:=by omega
    have cS:¬ bx<wr.heap.size:=by omega
    have cx:=KL bd;clear bm bd;refine Zr (fun w':World=>w'.cell? ⟨bx,0,none⟩=some (.int .i64 (z:Int))/\w'.cell? ⟨bc,oc+z,none⟩=some (.int .i64 cn)) (fun aa=>?_);refine eD 0 ?_;refine Z1 8 (fun K hK=>?_);go_simp;refine Zk hK fun aa=>?_;clear hK K;refine Z1 9 (fun K hK=>?_);go_simp;refine Zk hK fun aa=>?_;clear hK K;refine Zd ?_;refine bA _ (fun wy bw=>?_)
    have bq:Below wx.heap.size wx wy:=by rw [bw];exact Zb
    have aw:Below wr.heap.size wr wy:=aS.trans (bq.mono aS.size);obtain ⟨bY,br⟩:∃ bY,bY=wx.heap.size:=⟨_,rfl⟩
    have au:wy.heap[bY]?=some (.cells #[.int .i64 (z:Int),.int .i64 0,.int .i64 cn] 154 (0,0)):=by rw [bw];exact aB _ br
    have af:=aj bq af lx;rw [<- br];have ly:bY<wy.heap.size:=lt_of_block au;have cT:bx<wy.heap.size:=lt_of_block af
    have bn:wr.heap.size<=bY:=by have:=aS.size;omega
    have cY:¬ bY=bx:=by omega
    have cw:¬ bx=bY:=by omega
    have cv:bx≠bY:=cw;clear bw br bq aS;have y0:wy.cell? ⟨bx,0,none⟩=some (.int .i64 (z:Int)):=ae af 0;have z2:wy.cell? ⟨bY,2,none⟩=some (.int .i64 cn):=ae au 2;have zf:∀ z,wy.frozen? ⟨bY,z,none⟩=false:=fun z=>az au z;have aA:=ah aw aA ak;obtain ⟨ow,b8⟩:∃ ow,ow=zD X but (z:Int):=⟨_,rfl⟩;have bp:=KL b8;clear ac;by_cases hb0:0<=but
    ·obtain ⟨m,rfl⟩:=Lr hb0;have cp:m<X.tab.length:=by omega
     have cL:(m:Int)<(X.tab.length:Int):=by omega
     have c3:=bC.out m 3 cp (by omega);obtain ⟨tb,bv⟩:∃ tb,tb=(X.tab.getD m Sl.zero).backend:=⟨_,rfl⟩
     have c3:w.cell? ⟨bt,ot+m*4+3,none⟩=some (.int .i64 tb):=by rw [c3,bv];rfl
     have c3:=ah aw (ah HB.out (ah bb.out c3 bW) (by omega)) cm
     have bj:ow=(tb == (z:Int)):=by rw [b8];unfold zD;rw [Lm,<- bv];simp
     clear b8 bv;by_cases hq:tb=(z:Int)
     ·subst hq
      obtain rfl:ow=true:=by rw [bj];simp
      clear bj;go_wp2_with fail;refine Zr (fun w':World=>w'.cell? ⟨p,17,none⟩=some (.slice (some ⟨bt,ot,none⟩) X.tab.length ct)/\w'.cell? ⟨bx,0,none⟩=some (.int .i64 (z:Int))/\w'.cell? ⟨bt,ot+m*4+3,none⟩=some (.int .i64 (z:Int))) (fun aa=>?_);refine eD 0 ?_;refine eD 8 ?_;refine Zt 16 ?_;refine Zd ?_;go_wp2_with fail;refine bA _ (fun wq ab=>?_)
      have U:Below wr.heap.size wr wq:=by rw [ab];exact KO (KN aw) bn _
      have a6:wq.heap[bY]?=some (.cells #[.int .i64 (z:Int),.int .i64 0,.int .i64 (cn - 1)] 154 (0,0)):=by rw [ab];exact aR (j:=2) (w:=wy) au (.int .i64 (cn - 1))
      have a9:wq.heap[bx]?=some (.cells #[.int .i64 (z:Int),.int .i64 2,.int .i64 Y,.int .i64 Z,.int .i64 s4,.int .i64 s5] 173 (0,0)):=by rw [ab];exact aY (w:=wy) af cv
      obtain ⟨E,ar⟩:∃ E,E=cn - 1:=⟨_,rfl⟩;have av:=KL (show E=rL X (m:Int) (z:Int) from by unfold rL;rw [<- bp.out,Lm,<- HC.out,ar];simp);rw [<- ar] at a6;have c6:=U.size;have c8:bY<wq.heap.size:=lt_of_block a6;have c7:bx<wq.heap.size:=lt_of_block a9;clear ab au af aw ar z2 zf y0;have y0:wq.cell? ⟨bx,0,none⟩=some (.int .i64 (z:Int)):=ae a9 0;have y2:wq.cell? ⟨bx,2,none⟩=some (.int .i64 Y):=ae a9 2;have y3:wq.cell? ⟨bx,3,none⟩=some (.int .i64 Z):=ae a9 3;have z1:wq.cell? ⟨bY,1,none⟩=some (.int .i64 0):=ae a6 1;have zf:∀ z,wq.frozen? ⟨bY,z,none⟩=false:=fun z=>az a6 z;have ag:=ah U ag ak;have am:=ah U am ak;have x4:=ah U x4 ak;have ao:=ah U ao bs;refine Zr (fun w':World=>w'.cell? ⟨p,22,none⟩=some (.slice (some ⟨bh,oh,none⟩) 12 ch)/\w'.cell? ⟨bx,0,none⟩=some (.int .i64 (z:Int))/\w'.cell? ⟨bh,oh+z*4+1,none⟩=some (.bool t)) (fun aa=>?_);refine eD 0 ?_;refine dl 8 ?_;refine Zt 10 ?_;refine Zd ?_
      cases t with
      | true=>
       refine bA _ (fun wv a8=>?_)
       have W:Below wr.heap.size wr wv:=by rw [a8];exact KN U
       have J:wv.heap[bY]?=some (.cells #[.int .i64 (z:Int),.int .i64 0,.int .i64 E] 154 (0,0)):=by rw [a8];exact a6
       obtain ⟨I,a7⟩:∃ I,I=(0:Int):=⟨_,rfl⟩;rw [<- a7] at J;have HLd:=KL (show xO X (m:Int) ⟨(z:Int),2,Y,Z,s4,s5⟩=⟨(z:Int),I,E⟩ from by unfold xO rK;simp only;rw [HT.out,av.out,a7];simp);have hown:=bF HO.out W;have q0:wv.cell? ⟨bY,0,none⟩=some (.int .i64 (z:Int)):=ae J 0;have q1:wv.cell? ⟨bY,1,none⟩=some (.int .i64 I):=ae J 1;have q2:wv.cell? ⟨bY,2,none⟩=some (.int .i64 E):=ae J 2;have ba:=W.size;have HBv:=KL (HB.out.trans (W.mono ay));clear a8 a7 J a6 a9 W U y0 y2 y3 z1 zf;go_wp2_with (at_builtin;go_loud (refine wpList_append_own _ rfl _ _ 150 rfl wc.heap.size 154 i0 (.agg #[.int .i64 0,.int .i64 0,.int .i64 0]) 3 24 underlying150 hi aF aH aL rfl (by decide) _ (iZ X (m:Int) k).length _ rfl (hown.alloc _) ⟨wv.heap.size,0,none⟩ 1 1 (Ld.cells ⟨(z:Int),I,E⟩) rfl rfl (jK (w:=wv) rfl (Ld.cells ⟨(z:Int),I,E⟩) 154) ?c1Aa ?c2Aa ?c3Aa ?c4Aa ?_))
       case c1Aa=>intro u hu;simp [Ld.cells] at hu;rcases hu with rfl|rfl|rfl<;>rfl
       case c2Aa=>unfold maxLen;omega
       case c3Aa=>omega
       case c4Aa=>simp;omega
       exact Q15
      | false=>
       go_wp2_with fail;refine Zr (fun w':World=>w'.cell? ⟨bx,2,none⟩=some (.int .i64 Y)/\w'.cell? ⟨bx,3,none⟩=some (.int .i64 Z)/\w'.cell? ⟨p,16,none⟩=some (.int .i64 X.now)/\w'.cell? ⟨p,4,none⟩=some (.int .i64 X.cf.warm)) (fun aa=>?_);refine eD 0 ?_;refine eY 8 ?_;refine dl 12 ?_;refine Zt 14 ?_;refine Z1 15 (fun K hK=>?_);go_simp;(go_at_call 145;refine (ig _ _ _ _ _ r2 r3 w0 w1 r4 (by omega) b9 n1).mono ?_;rintro e w' ⟨rfl,rfl⟩;(try dsimp only));(try go_wp2_with fail);refine Zk hK fun aa=>?_;clear hK K;refine eY 16 ?_;refine Z1 20 (fun K hK=>?_);go_simp;refine Zk hK fun aa=>?_;clear hK K;refine Zd ?_;refine bA _ (fun wv a8=>?_);obtain ⟨I,a7⟩:∃ I,I=ip Y (X.now - Z) X.cf.warm:=⟨_,rfl⟩
       have W:Below wr.heap.size wr wv:=by rw [a8];exact KN (KO (KN U) bn _)
       have J:wv.heap[bY]?=some (.cells #[.int .i64 (z:Int),.int .i64 (ip Y (X.now - Z) X.cf.warm),.int .i64 E] 154 (0,0)):=by rw [a8];exact aR (j:=1) (w:=wq) a6 (.int .i64 (ip Y (X.now - Z) X.cf.warm))
       rw [<- a7] at J;have HLd:=KL (show xO X (m:Int) ⟨(z:Int),2,Y,Z,s4,s5⟩=⟨(z:Int),I,E⟩ from by unfold xO rK;simp only;rw [HT.out,av.out,a7];simp);have hown:=bF HO.out W;have q0:wv.cell? ⟨bY,0,none⟩=some (.int .i64 (z:Int)):=ae J 0;have q1:wv.cell? ⟨bY,1,none⟩=some (.int .i64 I):=ae J 1;have q2:wv.cell? ⟨bY,2,none⟩=some (.int .i64 E):=ae J 2;have ba:=W.size;have HBv:=KL (HB.out.trans (W.mono ay));clear a8 a7 J a6 a9 W U y0 y2 y3 z1 zf;go_wp2_with (at_builtin;go_loud (refine wpList_append_own _ rfl _ _ 150 rfl wc.heap.size 154 i0 (.agg #[.int .i64 0,.int .i64 0,.int .i64 0]) 3 24 underlying150 hi aF aH aL rfl (by decide) _ (iZ X (m:Int) k).length _ rfl (hown.alloc _) ⟨wv.heap.size,0,none⟩ 1 1 (Ld.cells ⟨(z:Int),I,E⟩) rfl rfl (jK (w:=wv) rfl (Ld.cells ⟨(z:Int),I,E⟩) 154) ?c1Ab ?c2Ab ?c3Ab ?c4Ab ?_))
       case c1Ab=>intro u hu;simp [Ld.cells] at hu;rcases hu with rfl|rfl|rfl<;>rfl
       case c2Ab=>unfold maxLen;omega
       case c3Ab=>omega
       case c4Ab=>simp;omega
       exact Q15
     ·have cr:(tb == (z:Int))=false:=by simpa using hq
      obtain rfl:ow=false:=by rw [bj,cr]
      clear bj hq;go_wp2_with fail;refine Zr (fun w':World=>w'.cell? ⟨p,17,none⟩=some (.slice (some ⟨bt,ot,none⟩) X.tab.length ct)/\w'.cell? ⟨bx,0,none⟩=some (.int .i64 (z:Int))/\w'.cell? ⟨bt,ot+m*4+3,none⟩=some (.int .i64 tb)) (fun aa=>?_);refine eD 0 ?_;refine eD 8 ?_;refine Zt 16 ?_;refine Zd ?_;go_wp2_with fail;refine bA _ (fun wq ab=>?_)
      have U:Below wr.heap.size wr wq:=by rw [ab];exact KN aw
      have a6:wq.heap[bY]?=some (.cells #[.int .i64 (z:Int),.int .i64 0,.int .i64 cn] 154 (0,0)):=by rw [ab];exact au
      have a9:wq.heap[bx]?=some (.cells #[.int .i64 (z:Int),.int .i64 2,.int .i64 Y,.int .i64 Z,.int .i64 s4,.int .i64 s5] 173 (0,0)):=by rw [ab];exact af
      obtain ⟨E,ar⟩:∃ E,E=cn:=⟨_,rfl⟩;have av:=KL (show E=rL X (m:Int) (z:Int) from by unfold rL;rw [<- bp.out,Lm,<- HC.out,ar];simp);obtain rfl:E=cn:=ar;have c6:=U.size;have c8:bY<wq.heap.size:=lt_of_block a6;have c7:bx<wq.heap.size:=lt_of_block a9;clear ab au af aw z2 zf y0;have y0:wq.cell? ⟨bx,0,none⟩=some (.int .i64 (z:Int)):=ae a9 0;have y2:wq.cell? ⟨bx,2,none⟩=some (.int .i64 Y):=ae a9 2;have y3:wq.cell? ⟨bx,3,none⟩=some (.int .i64 Z):=ae a9 3;have z1:wq.cell? ⟨bY,1,none⟩=some (.int .i64 0):=ae a6 1;have zf:∀ z,wq.frozen? ⟨bY,z,none⟩=false:=fun z=>az a6 z;have ag:=ah U ag ak;have am:=ah U am ak;have x4:=ah U x4 ak;have ao:=ah U ao bs;refine Zr (fun w':World=>w'.cell? ⟨p,22,none⟩=some (.slice (some ⟨bh,oh,none⟩) 12 ch)/\w'.cell? ⟨bx,0,none⟩=some (.int .i64 (z:Int))/\w'.cell? ⟨bh,oh+z*4+1,none⟩=some (.bool t)) (fun aa=>?_);refine eD 0 ?_;refine dl 8 ?_;refine Zt 10 ?_;refine Zd ?_
      cases t with
      | true=>
       refine bA _ (fun wv a8=>?_)
       have W:Below wr.heap.size wr wv:=by rw [a8];exact KN U
       have J:wv.heap[bY]?=some (.cells #[.int .i64 (z:Int),.int .i64 0,.int .i64 E] 154 (0,0)):=by rw [a8];exact a6
       obtain ⟨I,a7⟩:∃ I,I=(0:Int):=⟨_,rfl⟩;rw [<- a7] at J;have HLd:=KL (show xO X (m:Int) ⟨(z:Int),2,Y,Z,s4,s5⟩=⟨(z:Int),I,E⟩ from by unfold xO rK;simp only;rw [HT.out,av.out,a7];simp);have hown:=bF HO.out W;have q0:wv.cell? ⟨bY,0,none⟩=some (.int .i64 (z:Int)):=ae J 0;have q1:wv.cell? ⟨bY,1,none⟩=some (.int .i64 I):=ae J 1;have q2:wv.cell? ⟨bY,2,none⟩=some (.int .i64 E):=ae J 2;have ba:=W.size;have HBv:=KL (HB.out.trans (W.mono ay));clear a8 a7 J a6 a9 W U y0 y2 y3 z1 zf;go_wp2_with (at_builtin;go_loud (refine wpList_append_own _ rfl _ _ 150 rfl wc.heap.size 154 i0 (.agg #[.int .i64 0,.int .i64 0,.int .i64 0]) 3 24 underlying150 hi aF aH aL rfl (by decide) _ (iZ X (m:Int) k).length _ rfl (hown.alloc _) ⟨wv.heap.size,0,none⟩ 1 1 (Ld.cells ⟨(z:Int),I,E⟩) rfl rfl (jK (w:=wv) rfl (Ld.cells ⟨(z:Int),I,E⟩) 154) ?c1Ba ?c2Ba ?c3Ba ?c4Ba ?_))
       case c1Ba=>intro u hu;simp [Ld.cells] at hu;rcases hu with rfl|rfl|rfl<;>rfl
       case c2Ba=>unfold maxLen;omega
       case c3Ba=>omega
       case c4Ba=>simp;omega
       exact Q15
      | false=>
       go_wp2_with fail;refine Zr (fun w':World=>w'.cell? ⟨bx,2,none⟩=some (.int .i64 Y)/\w'.cell? ⟨bx,3,none⟩=some (.int .i64 Z)/\w'.cell? ⟨p,16,none⟩=some (.int .i64 X.now)/\w'.cell? ⟨p,4,none⟩=some (.int .i64 X.cf.warm)) (fun aa=>?_);refine eD 0 ?_;refine eY 8 ?_;refine dl 12 ?_;refine Zt 14 ?_;refine Z1 15 (fun K hK=>?_);go_simp;(go_at_call 145;refine (ig _ _ _ _ _ r2 r3 w0 w1 r4 (by omega) b9 n1).mono ?_;rintro e w' ⟨rfl,rfl⟩;(try dsimp only));(try go_wp2_with fail);refine Zk hK fun aa=>?_;clear hK K;refine eY 16 ?_;refine Z1 20 (fun K hK=>?_);go_simp;refine Zk hK fun aa=>?_;clear hK K;refine Zd ?_;refine bA _ (fun wv a8=>?_);obtain ⟨I,a7⟩:∃ I,I=ip Y (X.now - Z) X.cf.warm:=⟨_,rfl⟩
       have W:Below wr.heap.size wr wv:=by rw [a8];exact KN (KO (KN U) bn _)
       have J:wv.heap[bY]?=some (.cells #[.int .i64 (z:Int),.int .i64 (ip Y (X.now - Z) X.cf.warm),.int .i64 E] 154 (0,0)):=by rw [a8];exact aR (j:=1) (w:=wq) a6 (.int .i64 (ip Y (X.now - Z) X.cf.warm))
       rw [<- a7] at J;have HLd:=KL (show xO X (m:Int) ⟨(z:Int),2,Y,Z,s4,s5⟩=⟨(z:Int),I,E⟩ from by unfold xO rK;simp only;rw [HT.out,av.out,a7];simp);have hown:=bF HO.out W;have q0:wv.cell? ⟨bY,0,none⟩=some (.int .i64 (z:Int)):=ae J 0;have q1:wv.cell? ⟨bY,1,none⟩=some (.int .i64 I):=ae J 1;have q2:wv.cell? ⟨bY,2,none⟩=some (.int .i64 E):=ae J 2;have ba:=W.size;have HBv:=KL (HB.out.trans (W.mono ay));clear a8 a7 J a6 a9 W U y0 y2 y3 z1 zf;go_wp2_with (at_builtin;go_loud (refine wpList_append_own _ rfl _ _ 150 rfl wc.heap.size 154 i0 (.agg #[.int .i64 0,.int .i64 0,.int .i64 0]) 3 24 underlying150 hi aF aH aL rfl (by decide) _ (iZ X (m:Int) k).length _ rfl (hown.alloc _) ⟨wv.heap.size,0,none⟩ 1 1 (Ld.cells ⟨(z:Int),I,E⟩) rfl rfl (jK (w:=wv) rfl (Ld.cells ⟨(z:Int),I,E⟩) 154) ?c1Bb ?c2Bb ?c3Bb ?c4Bb ?_))
       case c1Bb=>intro u hu;simp [Ld.cells] at hu;rcases hu with rfl|rfl|rfl<;>rfl
       case c2Bb=>unfold maxLen;omega
       case c3Bb=>omega
       case c4Bb=>simp;omega
       exact Q15
    ·obtain rfl:ow=false:=by rw [b8];unfold zD;simp [hb0]
     have hb1:decide (0<=but)=false:=by simpa using hb0
     clear b8;go_wp2_with fail;refine Zr (fun w':World=>w'.cell? ⟨p,17,none⟩=some (.slice (some ⟨bt,ot,none⟩) X.tab.length ct)) (fun aa=>?_);refine eD 0 ?_;refine eD 8 ?_;refine Zt 16 ?_;refine Zd ?_;go_wp2_with fail;refine bA _ (fun wq ab=>?_)
     have U:Below wr.heap.size wr wq:=by rw [ab];exact KN aw
     have a6:wq.heap[bY]?=some (.cells #[.int .i64 (z:Int),.int .i64 0,.int .i64 cn] 154 (0,0)):=by rw [ab];exact au
     have a9:wq.heap[bx]?=some (.cells #[.int .i64 (z:Int),.int .i64 2,.int .i64 Y,.int .i64 Z,.int .i64 s4,.int .i64 s5] 173 (0,0)):=by rw [ab];exact af
     obtain ⟨E,ar⟩:∃ E,E=cn:=⟨_,rfl⟩;have av:=KL (show E=rL X but (z:Int) from by unfold rL;rw [<- bp.out,Lm,<- HC.out,ar];simp);obtain rfl:E=cn:=ar;have c6:=U.size;have c8:bY<wq.heap.size:=lt_of_block a6;have c7:bx<wq.heap.size:=lt_of_block a9;clear ab au af aw z2 zf y0;have y0:wq.cell? ⟨bx,0,none⟩=some (.int .i64 (z:Int)):=ae a9 0;have y2:wq.cell? ⟨bx,2,none⟩=some (.int .i64 Y):=ae a9 2;have y3:wq.cell? ⟨bx,3,none⟩=some (.int .i64 Z):=ae a9 3;have z1:wq.cell? ⟨bY,1,none⟩=some (.int .i64 0):=ae a6 1;have zf:∀ z,wq.frozen? ⟨bY,z,none⟩=false:=fun z=>az a6 z;have ag:=ah U ag ak;have am:=ah U am ak;have x4:=ah U x4 ak;have ao:=ah U ao bs;refine Zr (fun w':World=>w'.cell? ⟨p,22,none⟩=some (.slice (some ⟨bh,oh,none⟩) 12 ch)/\w'.cell? ⟨bx,0,none⟩=some (.int .i64 (z:Int))/\w'.cell? ⟨bh,oh+z*4+1,none⟩=some (.bool t)) (fun aa=>?_);refine eD 0 ?_;refine dl 8 ?_;refine Zt 10 ?_;refine Zd ?_
     cases t with
     | true=>
      refine bA _ (fun wv a8=>?_)
      have W:Below wr.heap.size wr wv:=by rw [a8];exact KN U
      have J:wv.heap[bY]?=some (.cells #[.int .i64 (z:Int),.int .i64 0,.int .i64 E] 154 (0,0)):=by rw [a8];exact a6
      obtain ⟨I,a7⟩:∃ I,I=(0:Int):=⟨_,rfl⟩;rw [<- a7] at J;have HLd:=KL (show xO X but ⟨(z:Int),2,Y,Z,s4,s5⟩=⟨(z:Int),I,E⟩ from by unfold xO rK;simp only;rw [HT.out,av.out,a7];simp);have hown:=bF HO.out W;have q0:wv.cell? ⟨bY,0,none⟩=some (.int .i64 (z:Int)):=ae J 0;have q1:wv.cell? ⟨bY,1,none⟩=some (.int .i64 I):=ae J 1;have q2:wv.cell? ⟨bY,2,none⟩=some (.int .i64 E):=ae J 2;have ba:=W.size;have HBv:=KL (HB.out.trans (W.mono ay));clear a8 a7 J a6 a9 W U y0 y2 y3 z1 zf;go_wp2_with (at_builtin;go_loud (refine wpList_append_own _ rfl _ _ 150 rfl wc.heap.size 154 i0 (.agg #[.int .i64 0,.int .i64 0,.int .i64 0]) 3 24 underlying150 hi aF aH aL rfl (by decide) _ (iZ X but k).length _ rfl (hown.alloc _) ⟨wv.heap.size,0,none⟩ 1 1 (Ld.cells ⟨(z:Int),I,E⟩) rfl rfl (jK (w:=wv) rfl (Ld.cells ⟨(z:Int),I,E⟩) 154) ?c1Ca ?c2Ca ?c3Ca ?c4Ca ?_))
      case c1Ca=>intro u hu;simp [Ld.cells] at hu;rcases hu with rfl|rfl|rfl<;>rfl
      case c2Ca=>unfold maxLen;omega
      case c3Ca=>omega
      case c4Ca=>simp;omega
      exact Q15
     | false=>
      go_wp2_with fail;refine Zr (fun w':World=>w'.cell? ⟨bx,2,none⟩=some (.int .i64 Y)/\w'.cell? ⟨bx,3,none⟩=some (.int .i64 Z)/\w'.cell? ⟨p,16,none⟩=some (.int .i64 X.now)/\w'.cell? ⟨p,4,none⟩=some (.int .i64 X.cf.warm)) (fun aa=>?_);refine eD 0 ?_;refine eY 8 ?_;refine dl 12 ?_;refine Zt 14 ?_;refine Z1 15 (fun K hK=>?_);go_simp;(go_at_call 145;refine (ig _ _ _ _ _ r2 r3 w0 w1 r4 (by omega) b9 n1).mono ?_;rintro e w' ⟨rfl,rfl⟩;(try dsimp only));(try go_wp2_with fail);refine Zk hK fun aa=>?_;clear hK K;refine eY 16 ?_;refine Z1 20 (fun K hK=>?_);go_simp;refine Zk hK fun aa=>?_;clear hK K;refine Zd ?_;refine bA _ (fun wv a8=>?_);obtain ⟨I,a7⟩:∃ I,I=ip Y (X.now - Z) X.cf.warm:=⟨_,rfl⟩
      have W:Below wr.heap.size wr wv:=by rw [a8];exact KN (KO (KN U) bn _)
      have J:wv.heap[bY]?=some (.cells #[.int .i64 (z:Int),.int .i64 (ip Y (X.now - Z) X.cf.warm),.int .i64 E] 154 (0,0)):=by rw [a8];exact aR (j:=1) (w:=wq) a6 (.int .i64 (ip Y (X.now - Z) X.cf.warm))
      rw [<- a7] at J;have HLd:=KL (show xO X but ⟨(z:Int),2,Y,Z,s4,s5⟩=⟨(z:Int),I,E⟩ from by unfold xO rK;simp only;rw [HT.out,av.out,a7];simp);have hown:=bF HO.out W;have q0:wv.cell? ⟨bY,0,none⟩=some (.int .i64 (z:Int)):=ae J 0;have q1:wv.cell? ⟨bY,1,none⟩=some (.int .i64 I):=ae J 1;have q2:wv.cell? ⟨bY,2,none⟩=some (.int .i64 E):=ae J 2;have ba:=W.size;have HBv:=KL (HB.out.trans (W.mono ay));clear a8 a7 J a6 a9 W U y0 y2 y3 z1 zf;go_wp2_with (at_builtin;go_loud (refine wpList_append_own _ rfl _ _ 150 rfl wc.heap.size 154 i0 (.agg #[.int .i64 0,.int .i64 0,.int .i64 0]) 3 24 underlying150 hi aF aH aL rfl (by decide) _ (iZ X but k).length _ rfl (hown.alloc _) ⟨wv.heap.size,0,none⟩ 1 1 (Ld.cells ⟨(z:Int),I,E⟩) rfl rfl (jK (w:=wv) rfl (Ld.cells ⟨(z:Int),I,E⟩) 154) ?c1Cb ?c2Cb ?c3Cb ?c4Cb ?_))
      case c1Cb=>intro u hu;simp [Ld.cells] at hu;rcases hu with rfl|rfl|rfl<;>rfl
      case c2Cb=>unfold maxLen;omega
      case c3Cb=>omega
      case c4Cb=>simp;omega
      exact Q15
   ·have hne:(s1 != 2)=true:=by simpa using hst
    have HS:=KL hst;clear hst;go_wp2;go_roundw
    case rel=>exact ⟨k+1,by omega,by go_num,by rw [c9.out HS.out];exact ⟨HB.out.alloc ay _,a,bT,rfl,HO.out.alloc _⟩⟩
    case measure=>simp [intOf];omega
  ·have cH:¬ (k:Int)<(X.lives.length:Int):=by omega
   have HB:=KL ad;have HO:=KL hown;clear ad hown;go_wp2;have HX:=KL (HB.out);refine LN (v:=.slice a (iZ X but k).length bT) ?_ rfl ?_
   ·simp [results,results102,go_sem, *]
   ·have e:iZ X but k=fu X but:=by rw [<- co];exact Fs X but
    exact ⟨_,rfl,by rw [<- e];exact aJ (aG HO.out (by simp) (ld_len _)) (by omega),bb.out.trans (HB.out.mono cu)⟩
end
end Go.Proofs.YtennppmadmgfoaaGreatDoor
