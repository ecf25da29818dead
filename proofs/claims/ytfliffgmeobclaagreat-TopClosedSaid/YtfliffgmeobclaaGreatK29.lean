/- Texts of the row's proof. Conditions: none. -/
import Derived.Test.YtfliffgmeobclaaGreatK28
namespace Go.Proofs.YtfliffgmeobclaaGreat
set_option maxRecDepth 100000
set_option maxHeartbeats 8000000
section
open Go.RowKit
theorem Dy:(Tryz.prog.info? 189).map (fun i=>(i.zero,i.size,i.bytes))=some (some (.agg #[.int .i64 0,.int .i64 0,.int .i64 0]),3,24):=by kernel_rfl
theorem ld_len (L:List Ld):∀ c∈L.map Ld.cells,c.length=3:=by
 exact Q29
theorem FO (L:List Ld) (x:Ld):((L++[x]).map Ld.cells).flatten=(L.map Ld.cells).flatten++x.cells:=by
 rw [Ir,Il];simp
def xW (X:Wd) (but:Int) (b:Int):Bool:=decide (0≤but) && ((X.tab.getD but.toNat Sl.zero).backend == b)
def qx (X:Wd) (but:Int) (b:Int):Int:=(gZ X.tab X.tab.length).getD b.toNat 0 - if xW X but b=true then 1 else 0
def mA (X:Wd) (x:Lf):Int:=if qo X.health x.backend=true then 0 else gN x.weight (X.now - x.since) X.cf.warm
def vH (X:Wd) (but:Int) (x:Lf):Ld:=⟨x.backend,mA X x,qx X but x.backend⟩
def iR (X:Wd) (but:Int) (k:Nat):List Ld:=((X.lives.take k).filter fun x=>x.state == 2).map (vH X but)
def fg (X:Wd) (but:Int):List Ld:=(X.lives.filter fun x=>x.state == 2).map (vH X but)
theorem D7 (X:Wd) (but:Int):iR X but X.lives.length=fg X but:=by unfold iR fg;rw [Ie (I3 _)]
theorem D6 (X:Wd) (but:Int) (k:Nat):(iR X but k).length≤k:=by
 unfold iR;rw [I9];exact Iq (List.length_filter_le _ _) (List.length_take_le _ _)
theorem D5 {X:Wd} {but:Int} {k:Nat} {x:Lf} (hx:x=X.lives.getD k Lf.zero) (hk:k<X.lives.length) (h:x.state=2):iR X but (k+1)=iR X but k++[vH X but x]:=by
 exact Q112
theorem FN {X:Wd} {but:Int} {k:Nat} {x:Lf} (hx:x=X.lives.getD k Lf.zero) (hk:k<X.lives.length) (h:¬ x.state=2):iR X but (k+1)=iR X but k:=by
 exact Q112
structure uw (X:Wd) (but:Int):Prop where
 bk:bF X.lives X.reqs
 hl:X.health.length=12
 tb:dN X.tab
 w0:0≤X.cf.warm
 w1:X.cf.warm≤500
 n1:X.now≤1099511627776
 si:∀ i,i<X.lives.length→(X.lives.getD i Lf.zero).since≤X.now
 bu:but<X.tab.length
def LdRel (w wr:World) (L:List Ld) (l:Value):Prop:=Below w.heap.size w wr∧∃ a cap,l=.slice a L.length cap∧wr.ownsRow w.heap.size 189 3 (.slice a L.length cap) L.length (L.map Ld.cells).flatten
theorem oe {p:Nat} {w:World} {X:Wd} {V:Vs} (h:GR p w X V) (but:Int) (hm:uw X but) :
  Calls Tryz.prog 98 #[.pointer (some ⟨p,0,none⟩),.int .i64 but] w (GO w 3 ((fg X but).map Ld.cells)):=by
 obtain ⟨i0,hi,hi0,hi1,hi2⟩:=info_parts Dy
 have x17:=h.c 17 (v:=V.t) rfl
 have x19:=h.c 19 (v:=V.l) rfl
 have x22:=h.c 22 (v:=V.h) rfl
 have x16:=h.c 16 (v:=.int .i64 X.now) rfl
 have x4:=h.c 4 (v:=.int .i64 X.cf.warm) rfl
 have hp:=h.2.2.2.1
 obtain ⟨bt,ot,ct,et,hbt,hqt⟩:∃ bt ot ct,V.t=.slice (some ⟨bt,ot,none⟩) X.tab.length ct∧bt<w.heap.size∧∀ i j,i<X.tab.length→j<4→w.cell? ⟨bt,ot+i*4+j,none⟩=(X.tab.getD i Sl.zero).cells[j]?:=by
  obtain ⟨a,c,e,_,_,_,q⟩:=aK Sl.zero h.1.ta.1;obtain ⟨b,o,rfl,hb,hq⟩:=q (by intro e;have:=hm.tb.1;rw [e] at this;simp at this);exact ⟨b,o,c,e,hb,hq⟩
 obtain ⟨bh,oh,ch,eh,hbh,hqh⟩:∃ bh oh ch,V.h=.slice (some ⟨bh,oh,none⟩) 12 ch∧bh<w.heap.size∧∀ i j,i<12→j<4→w.cell? ⟨bh,oh+i*4+j,none⟩=(sC (V.m.getD i undef) (X.health.getD i Ht.zero))[j]?:=by
  obtain ⟨a,c,e,_,_,_,q⟩:=h.2.2.1;have hl:=dF h.1.ml;rw [hm.hl] at hl;obtain ⟨b,o,rfl,hb,hq⟩:=q (by intro e;rw [e] at hl;simp at hl);rw [hl] at e;exact ⟨b,o,c,e,hb,fun i j hi hj=>by rw [hq i j (by omega) hj,iu h.1.ml (by rw [hm.hl];exact hi)]⟩
 obtain ⟨al,cl,el,_⟩:=aq h.1.li.1
 rw [et] at x17
 rw [el] at x19
 rw [eh] at x22
 have HLv:=Hu h.1.li.1
 rw [el] at HLv
 have HTb:=Hu h.1.ta.1
 rw [et] at HTb
 have HM:=Hu hm
 have HQt:=Hu hqt
 have HQh:=Hu hqh
 have hL:=hm.bk.1
 have w0:=hm.w0
 have w1:=hm.w1
 have n1:=hm.n1
 have bu:=hm.bu
 have ht:=hm.tb.2.1
 have hn:¬ X.lives.length=0→∃ bl ol,al=some ⟨bl,ol,none⟩∧bl<w.heap.size∧∀ k j,k<X.lives.length→j<6→w.cell? ⟨bl,ol+k*6+j,none⟩=(X.lives.getD k Lf.zero).cells[j]?:=fun hne=>by
  obtain ⟨_,_,e0,_,_,_,pt⟩:=aK Lf.zero HLv.out;exact Q47
 have HN:=Hu hn
 clear h hm hqt hqh et eh el hn
 go_enter Tryz.func98,Tryz.ntmps98
 go_wp2_with (go_at_call 93;refine (jN bt ot ct X.tab _ hbt HM.out.tb HTb.out HQt.out).mono ?_;rintro e wc ⟨vc,rfl,Rc,hbc⟩;obtain ⟨ac,cc,ec,_⟩:=aq Rc.1;rw [gR] at ec;subst ec;have x19:=ah hbc x19 hp)
 have hlc:=gR X.tab X.tab.length
 obtain ⟨bc,oc,rfl,hbcl,hqc⟩:∃ bc oc,ac=some ⟨bc,oc,none⟩∧bc<wc.heap.size∧∀ i,i<12→wc.cell? ⟨bc,oc+i,none⟩=some (.int .i64 ((gZ X.tab X.tab.length).getD i 0)):=by
  obtain ⟨_,_,e0,_,_,_,pt⟩:=aK (0:Int) Rc.1;injection e0 with e01 _ _;obtain ⟨b1,o1,e1,h1,q⟩:=pt (by intro e;rw [e] at hlc;simp at hlc);refine ⟨b1,o1,e01.trans e1,h1,fun i hi=>?_⟩;have:=q i 0 (by omega) (by omega);rw [Nat.mul_one,Nat.add_zero] at this;exact this
 have hpc:p<wc.heap.size:=by have:=hbc.size;omega
 have hwc:=hbc.size
 have HBc:=Hu hbc
 have x22:=ah hbc x22 hp
 have x16:=ah hbc x16 hp
 have x4:=ah hbc x4 hp
 have x17:=ah hbc x17 hp
 have HQc:=Hu hqc
 have HNl:=Hu hlc
 clear hbc hqc Rc hlc
 go_loopw [7,27] (fun l i wr=>∃ k:Nat,k≤X.lives.length∧i=.int .i64 k∧LdRel wc wr (iR X but k) l) (fun _ i _=>X.lives.length - (intOf i).toNat)
 case atStart=>exact ⟨0,I4 _,rfl,Hv _ _,none,0,rfl,Iv _ _ _ _⟩
 case round=>
  obtain ⟨k,hk,rfl,hbr,a,cap,rfl,hown⟩:=hrel;have hzr:=hbr.size;have hpr:p<wr.heap.size:=by omega
  have hLk:=D6 X but k;rcases (show k<X.lives.length∨X.lives.length=k by omega) with hlt|heq
  ·have hlt':(k:Int)<(X.lives.length:Int):=by omega
   have x22:=ah hbr x22 hpc;have x16:=ah hbr x16 hpc;have x4:=ah hbr x4 hpc;have x17:=ah hbr x17 hpc;obtain ⟨bl,ol,rfl,hbl,q⟩:=HN.out (by omega);have hsi:=HM.out.si k hlt;have hbk:=(HM.out.bk.2.2.1 k hlt).1;obtain ⟨s,hs⟩:∃ s,s=X.lives.getD k Lf.zero:=⟨_,rfl⟩
   have hold:∀ j,j<6→wr.cell? ⟨bl,ol+k*6+j,none⟩=s.cells[j]?:=fun j hj=>by rw [hbr.cell (p:=⟨bl,ol+k*6+j,none⟩) (by show bl<_;omega),HBc.out.cell (p:=⟨bl,ol+k*6+j,none⟩) hbl,hs];exact q k j hlt hj
   rw [← hs] at hsi hbk;have hno:¬ s.state=2→iR X but (k+1)=iR X but k:=fun h=>FN hs hlt h;have hyes:s.state=2→iR X but (k+1)=iR X but k++[vH X but s]:=fun h=>D5 hs hlt h;have HNo:=Hu hno;have HYe:=Hu hyes;obtain ⟨s0,s1,s2,s3,s4,s5⟩:=s;have r0:=hbk.1;have r1:=hbk.2.1;have r2:=hbk.2.2.1;have r3:=hbk.2.2.2.1;have r4:=hbk.2.2.2.2.1;simp only at r0 r1 r2 r3 r4 hsi;obtain ⟨n,rfl⟩:=Ih r0;have rn:n<12:=by omega
   have rni:(n:Int)<12:=by omega
   have a0:=hold 0 (by omega);have a1:=hold 1 (by omega);have a2:=hold 2 (by omega);have a3:=hold 3 (by omega);have a4:=hold 4 (by omega);have a5:=hold 5 (by omega);simp only [Lf.cells,I5,I6,Nat.add_zero] at a0 a1 a2 a3 a4 a5;have hbhr:bh<wr.heap.size:=by omega
   have hbtr:bt<wr.heap.size:=by omega
   have hbcr:bc<wr.heap.size:=by omega
   have ao:=ah hbr (ah HBc.out (HQh.out n 1 rn (by omega)) hbh) (by omega);obtain ⟨t,ht⟩:∃ t,t=(X.health.getD n Ht.zero).out:=⟨_,rfl⟩
   have hto:qo X.health (n:Int)=t:=by unfold qo;rw [Id,ht]
   rw [← ht] at ao;obtain ⟨cn,hcn⟩:∃ cn,cn=(gZ X.tab X.tab.length).getD n 0:=⟨_,rfl⟩;have ac:=ah hbr (HQc.out n rn) hbcl;rw [← hcn] at ac
   obtain ⟨hcb,hcb2⟩:0≤cn∧cn≤40:=by
    have e:=kA X.tab X.tab.length n rn
    have e2:cn=((iX X.tab (n:Nat) X.tab.length).length:Int):=by rw [hcn];simp only [List.getD,e,Iu]
    have:=kL X.tab (n:Nat) X.tab.length;omega
   have HB:=Hu hbr;have HT:=Hu hto;have HC:=Hu hcn;have HO:=Hu hown;clear hold hs q hbk ht hto hcn hno hyes hbr hown;by_cases hst:s1=2
   ·subst hst;go_wp2_with fail;refine aY _ (fun wx hwx=>?_)
    have bwx:Below wr.heap.size wr wx:=by rw [hwx];exact (Hv _ _).alloc (I3 _) _
    have zx:wr.heap.size<wx.heap.size:=by rw [hwx];simp
    obtain ⟨bx,hbx⟩:∃ bx,bx=wr.heap.size:=⟨_,rfl⟩
    have hx0:wx.heap[bx]?=some (.cells #[.int .i64 (n:Int),.int .i64 2,.int .i64 s2,.int .i64 s3,.int .i64 s4,.int .i64 s5] 94 (0,0)):=by rw [hwx];exact az _ hbx
    rw [← hbx];have y0:wx.cell? ⟨bx,0,none⟩=some (.int .i64 (n:Int)):=ae hx0 0;have ac:=ah bwx ac hbcr;have lx:bx<wx.heap.size:=by omega
    have lbx:¬ bx<wr.heap.size:=by omega
    have HBx:=Hu hbx;clear hwx hbx;refine Zr (fun w':World=>w'.cell? ⟨bx,0,none⟩=some (.int .i64 (n:Int))∧w'.cell? ⟨bc,oc+n,none⟩=some (.int .i64 cn)) (fun hHeld=>?_);refine ep 0 ?_;refine Z1 8 (fun K hK=>?_);go_simp;refine Zk hK fun hHeld=>?_;clear hK K;refine Z1 9 (fun K hK=>?_);go_simp;refine Zk hK fun hHeld=>?_;clear hK K;refine Zd ?_;refine aY _ (fun wy hwy=>?_)
    have bxy:Below wx.heap.size wx wy:=by rw [hwy];exact Zb
    have bwy:Below wr.heap.size wr wy:=bwx.trans (bxy.mono bwx.size);obtain ⟨bY,hbY⟩:∃ bY,bY=wx.heap.size:=⟨_,rfl⟩
    have hy0:wy.heap[bY]?=some (.cells #[.int .i64 (n:Int),.int .i64 0,.int .i64 cn] 189 (0,0)):=by rw [hwy];exact az _ hbY
    have hx0:=aj bxy hx0 lx;rw [← hbY];have ly:bY<wy.heap.size:=lt_of_block hy0;have lxy:bx<wy.heap.size:=lt_of_block hx0
    have lby:wr.heap.size≤bY:=by have:=bwx.size;omega
    have nxy:¬ bY=bx:=by omega
    have nyx:¬ bx=bY:=by omega
    have nxy':bx≠bY:=nyx;clear hwy hbY bxy bwx;have y0:wy.cell? ⟨bx,0,none⟩=some (.int .i64 (n:Int)):=ae hx0 0;have z2:wy.cell? ⟨bY,2,none⟩=some (.int .i64 cn):=ae hy0 2;have zf:∀ n,wy.frozen? ⟨bY,n,none⟩=false:=fun n=>ap hy0 n;have x17:=ah bwy x17 hpr;obtain ⟨ow,how⟩:∃ ow,ow=xW X but (n:Int):=⟨_,rfl⟩;have HOw:=Hu how;clear ac;by_cases hb0:0≤but
    ·obtain ⟨m,rfl⟩:=Ih hb0;have hmt:m<X.tab.length:=by omega
     have hmi:(m:Int)<(X.tab.length:Int):=by omega
     have c3:=HQt.out m 3 hmt (by omega);obtain ⟨tb,htb⟩:∃ tb,tb=(X.tab.getD m Sl.zero).backend:=⟨_,rfl⟩
     have c3:w.cell? ⟨bt,ot+m*4+3,none⟩=some (.int .i64 tb):=by rw [c3,htb];rfl
     have c3:=ah bwy (ah HB.out (ah HBc.out c3 hbt) (by omega)) hbtr
     have how2:ow=(tb == (n:Int)):=by rw [how];unfold xW;rw [Id,← htb];simp
     clear how htb;by_cases hq:tb=(n:Int)
     ·subst hq
      obtain rfl:ow=true:=by rw [how2];simp
      clear how2;go_wp2_with fail;refine Zr (fun w':World=>w'.cell? ⟨p,17,none⟩=some (.slice (some ⟨bt,ot,none⟩) X.tab.length ct)∧w'.cell? ⟨bx,0,none⟩=some (.int .i64 (n:Int))∧w'.cell? ⟨bt,ot+m*4+3,none⟩=some (.int .i64 (n:Int))) (fun hHeld=>?_);refine ep 0 ?_;refine ep 8 ?_;refine Zt 16 ?_;refine Zd ?_;go_wp2_with fail;refine aY _ (fun wq hwq=>?_)
      have bwq:Below wr.heap.size wr wq:=by rw [hwq];exact Hy (Hx bwy) lby _
      have hq0:wq.heap[bY]?=some (.cells #[.int .i64 (n:Int),.int .i64 0,.int .i64 (cn - 1)] 189 (0,0)):=by rw [hwq];exact aP (j:=2) (w:=wy) hy0 (.int .i64 (cn - 1))
      have hxq:wq.heap[bx]?=some (.cells #[.int .i64 (n:Int),.int .i64 2,.int .i64 s2,.int .i64 s3,.int .i64 s4,.int .i64 s5] 94 (0,0)):=by rw [hwq];exact aU (w:=wy) hx0 nxy'
      obtain ⟨fl,hfl⟩:∃ fl,fl=cn - 1:=⟨_,rfl⟩;have HFl:=Hu (show fl=qx X (m:Int) (n:Int) from by unfold qx;rw [← HOw.out,Id,← HC.out,hfl];simp);rw [← hfl] at hq0;have hzq:=bwq.size;have lyq:bY<wq.heap.size:=lt_of_block hq0;have lxq:bx<wq.heap.size:=lt_of_block hxq;clear hwq hy0 hx0 bwy hfl z2 zf y0;have y0:wq.cell? ⟨bx,0,none⟩=some (.int .i64 (n:Int)):=ae hxq 0;have y2:wq.cell? ⟨bx,2,none⟩=some (.int .i64 s2):=ae hxq 2;have y3:wq.cell? ⟨bx,3,none⟩=some (.int .i64 s3):=ae hxq 3;have z1:wq.cell? ⟨bY,1,none⟩=some (.int .i64 0):=ae hq0 1;have zf:∀ n,wq.frozen? ⟨bY,n,none⟩=false:=fun n=>ap hq0 n;have x22:=ah bwq x22 hpr;have x16:=ah bwq x16 hpr;have x4:=ah bwq x4 hpr;have ao:=ah bwq ao hbhr;refine Zr (fun w':World=>w'.cell? ⟨p,22,none⟩=some (.slice (some ⟨bh,oh,none⟩) 12 ch)∧w'.cell? ⟨bx,0,none⟩=some (.int .i64 (n:Int))∧w'.cell? ⟨bh,oh+n*4+1,none⟩=some (.bool t)) (fun hHeld=>?_);refine ep 0 ?_;refine df 8 ?_;refine Zt 10 ?_;refine Zd ?_
      cases t with
      | true=>
       refine aY _ (fun wv hwv=>?_)
       have bwv:Below wr.heap.size wr wv:=by rw [hwv];exact Hx bwq
       have hv0:wv.heap[bY]?=some (.cells #[.int .i64 (n:Int),.int .i64 0,.int .i64 fl] 189 (0,0)):=by rw [hwv];exact hq0
       obtain ⟨wt,hwt⟩:∃ wt,wt=(0:Int):=⟨_,rfl⟩;rw [← hwt] at hv0;have HLd:=Hu (show vH X (m:Int) ⟨(n:Int),2,s2,s3,s4,s5⟩=⟨(n:Int),wt,fl⟩ from by unfold vH mA;simp only;rw [HT.out,HFl.out,hwt];simp);have hown:=bA HO.out bwv;have q0:wv.cell? ⟨bY,0,none⟩=some (.int .i64 (n:Int)):=ae hv0 0;have q1:wv.cell? ⟨bY,1,none⟩=some (.int .i64 wt):=ae hv0 1;have q2:wv.cell? ⟨bY,2,none⟩=some (.int .i64 fl):=ae hv0 2;have hzv:=bwv.size;have HBv:=Hu (HB.out.trans (bwv.mono hzr));clear hwv hwt hv0 hq0 hxq bwv bwq y0 y2 y3 z1 zf;go_wp2_with (at_builtin;go_loud (refine wpList_append_own _ rfl _ _ 185 rfl wc.heap.size 189 i0 (.agg #[.int .i64 0,.int .i64 0,.int .i64 0]) 3 24 Tryz.underlying185 hi hi0 hi1 hi2 rfl (by decide) _ (iR X (m:Int) k).length _ rfl (hown.alloc _) ⟨wv.heap.size,0,none⟩ 1 1 (Ld.cells ⟨(n:Int),wt,fl⟩) rfl rfl (jB (w:=wv) rfl (Ld.cells ⟨(n:Int),wt,fl⟩) 189) ?c1Aa ?c2Aa ?c3Aa ?c4Aa ?_))
       case c1Aa=>intro u hu;simp [Ld.cells] at hu;rcases hu with rfl|rfl|rfl<;>rfl
       case c2Aa=>unfold maxLen;omega
       case c3Aa=>omega
       case c4Aa=>simp;omega
       exact Q15
      | false=>
       go_wp2_with fail;refine Zr (fun w':World=>w'.cell? ⟨bx,2,none⟩=some (.int .i64 s2)∧w'.cell? ⟨bx,3,none⟩=some (.int .i64 s3)∧w'.cell? ⟨p,16,none⟩=some (.int .i64 X.now)∧w'.cell? ⟨p,4,none⟩=some (.int .i64 X.cf.warm)) (fun hHeld=>?_);refine ep 0 ?_;refine eP 8 ?_;refine df 12 ?_;refine Zt 14 ?_;refine Z1 15 (fun K hK=>?_);go_simp;(go_at_call 141;refine (gW _ _ _ _ _ r2 r3 w0 w1 r4 (by omega) hsi n1).mono ?_;rintro e w' ⟨rfl,rfl⟩;(try dsimp only));(try go_wp2_with fail);refine Zk hK fun hHeld=>?_;clear hK K;refine eP 16 ?_;refine Z1 20 (fun K hK=>?_);go_simp;refine Zk hK fun hHeld=>?_;clear hK K;refine Zd ?_;refine aY _ (fun wv hwv=>?_);obtain ⟨wt,hwt⟩:∃ wt,wt=gN s2 (X.now - s3) X.cf.warm:=⟨_,rfl⟩
       have bwv:Below wr.heap.size wr wv:=by rw [hwv];exact Hx (Hy (Hx bwq) lby _)
       have hv0:wv.heap[bY]?=some (.cells #[.int .i64 (n:Int),.int .i64 (gN s2 (X.now - s3) X.cf.warm),.int .i64 fl] 189 (0,0)):=by rw [hwv];exact aP (j:=1) (w:=wq) hq0 (.int .i64 (gN s2 (X.now - s3) X.cf.warm))
       rw [← hwt] at hv0;have HLd:=Hu (show vH X (m:Int) ⟨(n:Int),2,s2,s3,s4,s5⟩=⟨(n:Int),wt,fl⟩ from by unfold vH mA;simp only;rw [HT.out,HFl.out,hwt];simp);have hown:=bA HO.out bwv;have q0:wv.cell? ⟨bY,0,none⟩=some (.int .i64 (n:Int)):=ae hv0 0;have q1:wv.cell? ⟨bY,1,none⟩=some (.int .i64 wt):=ae hv0 1;have q2:wv.cell? ⟨bY,2,none⟩=some (.int .i64 fl):=ae hv0 2;have hzv:=bwv.size;have HBv:=Hu (HB.out.trans (bwv.mono hzr));clear hwv hwt hv0 hq0 hxq bwv bwq y0 y2 y3 z1 zf;go_wp2_with (at_builtin;go_loud (refine wpList_append_own _ rfl _ _ 185 rfl wc.heap.size 189 i0 (.agg #[.int .i64 0,.int .i64 0,.int .i64 0]) 3 24 Tryz.underlying185 hi hi0 hi1 hi2 rfl (by decide) _ (iR X (m:Int) k).length _ rfl (hown.alloc _) ⟨wv.heap.size,0,none⟩ 1 1 (Ld.cells ⟨(n:Int),wt,fl⟩) rfl rfl (jB (w:=wv) rfl (Ld.cells ⟨(n:Int),wt,fl⟩) 189) ?c1Ab ?c2Ab ?c3Ab ?c4Ab ?_))
       case c1Ab=>intro u hu;simp [Ld.cells] at hu;rcases hu with rfl|rfl|rfl<;>rfl
       case c2Ab=>unfold maxLen;omega
       case c3Ab=>omega
       case c4Ab=>simp;omega
       exact Q15
     ·have hqn:(tb == (n:Int))=false:=by simpa using hq
      obtain rfl:ow=false:=by rw [how2,hqn]
      clear how2 hq;go_wp2_with fail;refine Zr (fun w':World=>w'.cell? ⟨p,17,none⟩=some (.slice (some ⟨bt,ot,none⟩) X.tab.length ct)∧w'.cell? ⟨bx,0,none⟩=some (.int .i64 (n:Int))∧w'.cell? ⟨bt,ot+m*4+3,none⟩=some (.int .i64 tb)) (fun hHeld=>?_);refine ep 0 ?_;refine ep 8 ?_;refine Zt 16 ?_;refine Zd ?_;go_wp2_with fail;refine aY _ (fun wq hwq=>?_)
      have bwq:Below wr.heap.size wr wq:=by rw [hwq];exact Hx bwy
      have hq0:wq.heap[bY]?=some (.cells #[.int .i64 (n:Int),.int .i64 0,.int .i64 cn] 189 (0,0)):=by rw [hwq];exact hy0
      have hxq:wq.heap[bx]?=some (.cells #[.int .i64 (n:Int),.int .i64 2,.int .i64 s2,.int .i64 s3,.int .i64 s4,.int .i64 s5] 94 (0,0)):=by rw [hwq];exact hx0
      obtain ⟨fl,hfl⟩:∃ fl,fl=cn:=⟨_,rfl⟩;have HFl:=Hu (show fl=qx X (m:Int) (n:Int) from by unfold qx;rw [← HOw.out,Id,← HC.out,hfl];simp);obtain rfl:fl=cn:=hfl;have hzq:=bwq.size;have lyq:bY<wq.heap.size:=lt_of_block hq0;have lxq:bx<wq.heap.size:=lt_of_block hxq;clear hwq hy0 hx0 bwy z2 zf y0;have y0:wq.cell? ⟨bx,0,none⟩=some (.int .i64 (n:Int)):=ae hxq 0;have y2:wq.cell? ⟨bx,2,none⟩=some (.int .i64 s2):=ae hxq 2;have y3:wq.cell? ⟨bx,3,none⟩=some (.int .i64 s3):=ae hxq 3;have z1:wq.cell? ⟨bY,1,none⟩=some (.int .i64 0):=ae hq0 1;have zf:∀ n,wq.frozen? ⟨bY,n,none⟩=false:=fun n=>ap hq0 n;have x22:=ah bwq x22 hpr;have x16:=ah bwq x16 hpr;have x4:=ah bwq x4 hpr;have ao:=ah bwq ao hbhr;refine Zr (fun w':World=>w'.cell? ⟨p,22,none⟩=some (.slice (some ⟨bh,oh,none⟩) 12 ch)∧w'.cell? ⟨bx,0,none⟩=some (.int .i64 (n:Int))∧w'.cell? ⟨bh,oh+n*4+1,none⟩=some (.bool t)) (fun hHeld=>?_);refine ep 0 ?_;refine df 8 ?_;refine Zt 10 ?_;refine Zd ?_
      cases t with
      | true=>
       refine aY _ (fun wv hwv=>?_)
       have bwv:Below wr.heap.size wr wv:=by rw [hwv];exact Hx bwq
       have hv0:wv.heap[bY]?=some (.cells #[.int .i64 (n:Int),.int .i64 0,.int .i64 fl] 189 (0,0)):=by rw [hwv];exact hq0
       obtain ⟨wt,hwt⟩:∃ wt,wt=(0:Int):=⟨_,rfl⟩;rw [← hwt] at hv0;have HLd:=Hu (show vH X (m:Int) ⟨(n:Int),2,s2,s3,s4,s5⟩=⟨(n:Int),wt,fl⟩ from by unfold vH mA;simp only;rw [HT.out,HFl.out,hwt];simp);have hown:=bA HO.out bwv;have q0:wv.cell? ⟨bY,0,none⟩=some (.int .i64 (n:Int)):=ae hv0 0;have q1:wv.cell? ⟨bY,1,none⟩=some (.int .i64 wt):=ae hv0 1;have q2:wv.cell? ⟨bY,2,none⟩=some (.int .i64 fl):=ae hv0 2;have hzv:=bwv.size;have HBv:=Hu (HB.out.trans (bwv.mono hzr));clear hwv hwt hv0 hq0 hxq bwv bwq y0 y2 y3 z1 zf;go_wp2_with (at_builtin;go_loud (refine wpList_append_own _ rfl _ _ 185 rfl wc.heap.size 189 i0 (.agg #[.int .i64 0,.int .i64 0,.int .i64 0]) 3 24 Tryz.underlying185 hi hi0 hi1 hi2 rfl (by decide) _ (iR X (m:Int) k).length _ rfl (hown.alloc _) ⟨wv.heap.size,0,none⟩ 1 1 (Ld.cells ⟨(n:Int),wt,fl⟩) rfl rfl (jB (w:=wv) rfl (Ld.cells ⟨(n:Int),wt,fl⟩) 189) ?c1Ba ?c2Ba ?c3Ba ?c4Ba ?_))
       case c1Ba=>intro u hu;simp [Ld.cells] at hu;rcases hu with rfl|rfl|rfl<;>rfl
       case c2Ba=>unfold maxLen;omega
       case c3Ba=>omega
       case c4Ba=>simp;omega
       exact Q15
      | false=>
       go_wp2_with fail;refine Zr (fun w':World=>w'.cell? ⟨bx,2,none⟩=some (.int .i64 s2)∧w'.cell? ⟨bx,3,none⟩=some (.int .i64 s3)∧w'.cell? ⟨p,16,none⟩=some (.int .i64 X.now)∧w'.cell? ⟨p,4,none⟩=some (.int .i64 X.cf.warm)) (fun hHeld=>?_);refine ep 0 ?_;refine eP 8 ?_;refine df 12 ?_;refine Zt 14 ?_;refine Z1 15 (fun K hK=>?_);go_simp;(go_at_call 141;refine (gW _ _ _ _ _ r2 r3 w0 w1 r4 (by omega) hsi n1).mono ?_;rintro e w' ⟨rfl,rfl⟩;(try dsimp only));(try go_wp2_with fail);refine Zk hK fun hHeld=>?_;clear hK K;refine eP 16 ?_;refine Z1 20 (fun K hK=>?_);go_simp;refine Zk hK fun hHeld=>?_;clear hK K;refine Zd ?_;refine aY _ (fun wv hwv=>?_);obtain ⟨wt,hwt⟩:∃ wt,wt=gN s2 (X.now - s3) X.cf.warm:=⟨_,rfl⟩
       have bwv:Below wr.heap.size wr wv:=by rw [hwv];exact Hx (Hy (Hx bwq) lby _)
       have hv0:wv.heap[bY]?=some (.cells #[.int .i64 (n:Int),.int .i64 (gN s2 (X.now - s3) X.cf.warm),.int .i64 fl] 189 (0,0)):=by rw [hwv];exact aP (j:=1) (w:=wq) hq0 (.int .i64 (gN s2 (X.now - s3) X.cf.warm))
       rw [← hwt] at hv0;have HLd:=Hu (show vH X (m:Int) ⟨(n:Int),2,s2,s3,s4,s5⟩=⟨(n:Int),wt,fl⟩ from by unfold vH mA;simp only;rw [HT.out,HFl.out,hwt];simp);have hown:=bA HO.out bwv;have q0:wv.cell? ⟨bY,0,none⟩=some (.int .i64 (n:Int)):=ae hv0 0;have q1:wv.cell? ⟨bY,1,none⟩=some (.int .i64 wt):=ae hv0 1;have q2:wv.cell? ⟨bY,2,none⟩=some (.int .i64 fl):=ae hv0 2;have hzv:=bwv.size;have HBv:=Hu (HB.out.trans (bwv.mono hzr));clear hwv hwt hv0 hq0 hxq bwv bwq y0 y2 y3 z1 zf;go_wp2_with (at_builtin;go_loud (refine wpList_append_own _ rfl _ _ 185 rfl wc.heap.size 189 i0 (.agg #[.int .i64 0,.int .i64 0,.int .i64 0]) 3 24 Tryz.underlying185 hi hi0 hi1 hi2 rfl (by decide) _ (iR X (m:Int) k).length _ rfl (hown.alloc _) ⟨wv.heap.size,0,none⟩ 1 1 (Ld.cells ⟨(n:Int),wt,fl⟩) rfl rfl (jB (w:=wv) rfl (Ld.cells ⟨(n:Int),wt,fl⟩) 189) ?c1Bb ?c2Bb ?c3Bb ?c4Bb ?_))
       case c1Bb=>intro u hu;simp [Ld.cells] at hu;rcases hu with rfl|rfl|rfl<;>rfl
       case c2Bb=>unfold maxLen;omega
       case c3Bb=>omega
       case c4Bb=>simp;omega
       exact Q15
    ·obtain rfl:ow=false:=by rw [how];unfold xW;simp [hb0]
     have hb1:decide (0≤but)=false:=by simpa using hb0
     clear how;go_wp2_with fail;refine Zr (fun w':World=>w'.cell? ⟨p,17,none⟩=some (.slice (some ⟨bt,ot,none⟩) X.tab.length ct)) (fun hHeld=>?_);refine ep 0 ?_;refine ep 8 ?_;refine Zt 16 ?_;refine Zd ?_;go_wp2_with fail;refine aY _ (fun wq hwq=>?_)
     have bwq:Below wr.heap.size wr wq:=by rw [hwq];exact Hx bwy
     have hq0:wq.heap[bY]?=some (.cells #[.int .i64 (n:Int),.int .i64 0,.int .i64 cn] 189 (0,0)):=by rw [hwq];exact hy0
     have hxq:wq.heap[bx]?=some (.cells #[.int .i64 (n:Int),.int .i64 2,.int .i64 s2,.int .i64 s3,.int .i64 s4,.int .i64 s5] 94 (0,0)):=by rw [hwq];exact hx0
     obtain ⟨fl,hfl⟩:∃ fl,fl=cn:=⟨_,rfl⟩;have HFl:=Hu (show fl=qx X but (n:Int) from by unfold qx;rw [← HOw.out,Id,← HC.out,hfl];simp);obtain rfl:fl=cn:=hfl;have hzq:=bwq.size;have lyq:bY<wq.heap.size:=lt_of_block hq0;have lxq:bx<wq.heap.size:=lt_of_block hxq;clear hwq hy0 hx0 bwy z2 zf y0;have y0:wq.cell? ⟨bx,0,none⟩=some (.int .i64 (n:Int)):=ae hxq 0;have y2:wq.cell? ⟨bx,2,none⟩=some (.int .i64 s2):=ae hxq 2;have y3:wq.cell? ⟨bx,3,none⟩=some (.int .i64 s3):=ae hxq 3;have z1:wq.cell? ⟨bY,1,none⟩=some (.int .i64 0):=ae hq0 1;have zf:∀ n,wq.frozen? ⟨bY,n,none⟩=false:=fun n=>ap hq0 n;have x22:=ah bwq x22 hpr;have x16:=ah bwq x16 hpr;have x4:=ah bwq x4 hpr;have ao:=ah bwq ao hbhr;refine Zr (fun w':World=>w'.cell? ⟨p,22,none⟩=some (.slice (some ⟨bh,oh,none⟩) 12 ch)∧w'.cell? ⟨bx,0,none⟩=some (.int .i64 (n:Int))∧w'.cell? ⟨bh,oh+n*4+1,none⟩=some (.bool t)) (fun hHeld=>?_);refine ep 0 ?_;refine df 8 ?_;refine Zt 10 ?_;refine Zd ?_
     cases t with
     | true=>
      refine aY _ (fun wv hwv=>?_)
      have bwv:Below wr.heap.size wr wv:=by rw [hwv];exact Hx bwq
      have hv0:wv.heap[bY]?=some (.cells #[.int .i64 (n:Int),.int .i64 0,.int .i64 fl] 189 (0,0)):=by rw [hwv];exact hq0
      obtain ⟨wt,hwt⟩:∃ wt,wt=(0:Int):=⟨_,rfl⟩;rw [← hwt] at hv0;have HLd:=Hu (show vH X but ⟨(n:Int),2,s2,s3,s4,s5⟩=⟨(n:Int),wt,fl⟩ from by unfold vH mA;simp only;rw [HT.out,HFl.out,hwt];simp);have hown:=bA HO.out bwv;have q0:wv.cell? ⟨bY,0,none⟩=some (.int .i64 (n:Int)):=ae hv0 0;have q1:wv.cell? ⟨bY,1,none⟩=some (.int .i64 wt):=ae hv0 1;have q2:wv.cell? ⟨bY,2,none⟩=some (.int .i64 fl):=ae hv0 2;have hzv:=bwv.size;have HBv:=Hu (HB.out.trans (bwv.mono hzr));clear hwv hwt hv0 hq0 hxq bwv bwq y0 y2 y3 z1 zf;go_wp2_with (at_builtin;go_loud (refine wpList_append_own _ rfl _ _ 185 rfl wc.heap.size 189 i0 (.agg #[.int .i64 0,.int .i64 0,.int .i64 0]) 3 24 Tryz.underlying185 hi hi0 hi1 hi2 rfl (by decide) _ (iR X but k).length _ rfl (hown.alloc _) ⟨wv.heap.size,0,none⟩ 1 1 (Ld.cells ⟨(n:Int),wt,fl⟩) rfl rfl (jB (w:=wv) rfl (Ld.cells ⟨(n:Int),wt,fl⟩) 189) ?c1Ca ?c2Ca ?c3Ca ?c4Ca ?_))
      case c1Ca=>intro u hu;simp [Ld.cells] at hu;rcases hu with rfl|rfl|rfl<;>rfl
      case c2Ca=>unfold maxLen;omega
      case c3Ca=>omega
      case c4Ca=>simp;omega
      exact Q15
     | false=>
      go_wp2_with fail;refine Zr (fun w':World=>w'.cell? ⟨bx,2,none⟩=some (.int .i64 s2)∧w'.cell? ⟨bx,3,none⟩=some (.int .i64 s3)∧w'.cell? ⟨p,16,none⟩=some (.int .i64 X.now)∧w'.cell? ⟨p,4,none⟩=some (.int .i64 X.cf.warm)) (fun hHeld=>?_);refine ep 0 ?_;refine eP 8 ?_;refine df 12 ?_;refine Zt 14 ?_;refine Z1 15 (fun K hK=>?_);go_simp;(go_at_call 141;refine (gW _ _ _ _ _ r2 r3 w0 w1 r4 (by omega) hsi n1).mono ?_;rintro e w' ⟨rfl,rfl⟩;(try dsimp only));(try go_wp2_with fail);refine Zk hK fun hHeld=>?_;clear hK K;refine eP 16 ?_;refine Z1 20 (fun K hK=>?_);go_simp;refine Zk hK fun hHeld=>?_;clear hK K;refine Zd ?_;refine aY _ (fun wv hwv=>?_);obtain ⟨wt,hwt⟩:∃ wt,wt=gN s2 (X.now - s3) X.cf.warm:=⟨_,rfl⟩
      have bwv:Below wr.heap.size wr wv:=by rw [hwv];exact Hx (Hy (Hx bwq) lby _)
      have hv0:wv.heap[bY]?=some (.cells #[.int .i64 (n:Int),.int .i64 (gN s2 (X.now - s3) X.cf.warm),.int .i64 fl] 189 (0,0)):=by rw [hwv];exact aP (j:=1) (w:=wq) hq0 (.int .i64 (gN s2 (X.now - s3) X.cf.warm))
      rw [← hwt] at hv0;have HLd:=Hu (show vH X but ⟨(n:Int),2,s2,s3,s4,s5⟩=⟨(n:Int),wt,fl⟩ from by unfold vH mA;simp only;rw [HT.out,HFl.out,hwt];simp);have hown:=bA HO.out bwv;have q0:wv.cell? ⟨bY,0,none⟩=some (.int .i64 (n:Int)):=ae hv0 0;have q1:wv.cell? ⟨bY,1,none⟩=some (.int .i64 wt):=ae hv0 1;have q2:wv.cell? ⟨bY,2,none⟩=some (.int .i64 fl):=ae hv0 2;have hzv:=bwv.size;have HBv:=Hu (HB.out.trans (bwv.mono hzr));clear hwv hwt hv0 hq0 hxq bwv bwq y0 y2 y3 z1 zf;go_wp2_with (at_builtin;go_loud (refine wpList_append_own _ rfl _ _ 185 rfl wc.heap.size 189 i0 (.agg #[.int .i64 0,.int .i64 0,.int .i64 0]) 3 24 Tryz.underlying185 hi hi0 hi1 hi2 rfl (by decide) _ (iR X but k).length _ rfl (hown.alloc _) ⟨wv.heap.size,0,none⟩ 1 1 (Ld.cells ⟨(n:Int),wt,fl⟩) rfl rfl (jB (w:=wv) rfl (Ld.cells ⟨(n:Int),wt,fl⟩) 189) ?c1Cb ?c2Cb ?c3Cb ?c4Cb ?_))
      case c1Cb=>intro u hu;simp [Ld.cells] at hu;rcases hu with rfl|rfl|rfl<;>rfl
      case c2Cb=>unfold maxLen;omega
      case c3Cb=>omega
      case c4Cb=>simp;omega
      exact Q15
   ·have hne:(s1 != 2)=true:=by simpa using hst
    have HS:=Hu hst;clear hst;go_wp2;go_roundw
    case rel=>exact ⟨k+1,by omega,by go_num,by rw [HNo.out HS.out];exact ⟨HB.out.alloc hzr _,a,cap,rfl,HO.out.alloc _⟩⟩
    case measure=>simp [intOf];omega
  ·have hge:¬ (k:Int)<(X.lives.length:Int):=by omega
   have HB:=Hu hbr;have HO:=Hu hown;clear hbr hown;go_wp2;have HX:=Hu (HB.out);refine Ix (v:=.slice a (iR X but k).length cap) ?_ rfl ?_
   ·simp [results,Tryz.results98,go_sem, *]
   ·have e:iR X but k=fg X but:=by rw [← heq];exact D7 X but
    exact ⟨_,rfl,by rw [← e];exact aG (aD HO.out (by simp) (ld_len _)) (by omega),HBc.out.trans (HB.out.mono hwc)⟩
end
end Go.Proofs.YtfliffgmeobclaaGreat
