/- Texts of the row's proof. Conditions: none. -/
import Derived.Test.YtfliffgmeobclaaGreatK36
namespace Go.Proofs.YtfliffgmeobclaaGreat
set_option maxRecDepth 100000
set_option maxHeartbeats 8000000
section
open Go.RowKit
theorem name_c {P:Program} {F:Nat} {args:Array Value} {Q:Ending→World→Prop} (w:World) (h:∀ w',w'=w→Calls P F args w' Q):Calls P F args w Q:=h w rfl
theorem sU (x:Sl) (w:World):Calls Tryz.prog 58 #[Sl.agg x] w fun e w'=>e=.returned (.bool (fh x))∧Below w.heap.size w w':=by
 obtain ⟨g,u,k,b⟩:=x;unfold fh Sl.agg
 cases u with
 | true=>
  go_enter Tryz.func58,Tryz.ntmps58;go_wp2
  all_goals exact Zf
 | false=>
  by_cases h:g<1048576
  ·have HD:=Hu h;go_enter Tryz.func58,Tryz.ntmps58;exact Q148
  ·have hd:decide (g<1048576)=false:=by simpa using h
   have HD:=Hu h;clear h;go_enter Tryz.func58,Tryz.ntmps58;exact Q144
theorem kC:∀ args w,(callFunc 58 args).run Tryz.prog w=.ok (.enter 58 args) w:=enters_of Tryz.func58 (by kernel_rfl) rfl
def jP (F:List Fl) (s:Int):Nat:=(F.takeWhile fun f=>decide (f.slot<s)).length
def lU (F:List Fl) (f:Fl):List Fl:=F.take (jP F f.slot)++f :: F.drop (jP F f.slot)
theorem vP (F:List Fl) (s:Int):jP F s≤F.length:=(List.takeWhile_sublist _).length_le
theorem lV (a:Fl) (F:List Fl) (s:Int):jP (a :: F) s=if a.slot<s then jP F s+1 else 0:=by
 unfold jP;rw [List.takeWhile_cons];by_cases h:a.slot<s<;>simp [h]
theorem vO {s:Int}:∀ {F:List Fl} {j:Nat},j<jP F s→(F.getD j Fl.zero).slot<s
 | [],j,h=>by simp [jP] at h
 | a :: F,j,h=>by
  rw [lV] at h;by_cases ha:a.slot<s
  ·rw [if_pos ha] at h
   cases j with
   | zero=>simpa using ha
   | succ j=>have:=vO (F:=F) (s:=s) (j:=j) (by omega);simpa using this
  ·rw [if_neg ha] at h;omega
theorem vN {s:Int}:∀ {F:List Fl},jP F s<F.length→¬ (F.getD (jP F s) Fl.zero).slot<s
 | [],h=>by simp at h
 | a :: F,h=>by
  rw [lV] at h ⊢;by_cases ha:a.slot<s
  ·rw [if_pos ha] at h ⊢;have:=vN (F:=F) (s:=s) (by simp at h;omega);simpa using this
  ·rw [if_neg ha];simpa using ha
theorem vL (F:List Fl) (f:Fl):((lU F f).map Fl.cells).flatten=(eo (F.map Fl.cells) (jP F f.slot) (Fl.cells f)).flatten:=by
 unfold lU eo;simp
theorem vM (F:List Fl) (f:Fl):(lU F f).length=F.length+1:=by
 unfold lU;have:=vP F f.slot;simp;omega
def pG (X:Wd) (key:Nat) (s:Nat) (b:Int):Wd:=
 { X with tab:=X.tab.set s ⟨(X.tab.getD s Sl.zero).gen,true,key,b⟩,lists:=jE X.now X.lists s X.cf.connect,flows:=lU X.flows ⟨s,(X.tab.getD s Sl.zero).gen,key,b,false,0,X.now+X.cf.connect⟩,tok:=min (X.tok+X.cf.bn) (X.cf.bb*X.cf.bd) }
def gj (X:Wd) (key:Nat):Wd×List Out:=
 if aQ fh X.tab<0 then (X,[⟨2,0,0,0,0,9,0⟩])
 else if (dC X key (-1)).2≠0 then (X,[⟨2,0,0,0,0,11,0⟩])
 else (pG X key (aQ fh X.tab).toNat (dC X key (-1)).1,[⟨1,aQ fh X.tab,(X.tab.getD (aQ fh X.tab).toNat Sl.zero).gen,(dC X key (-1)).1,0,0,0⟩])
theorem xO {B p:Nat} {w:World} {X:Wd} {O:List Out} {S:List Nat} {V:Vs} {vo:Value} (h:G B p w X O S V vo) (hm:GwMay X) (key:Nat) (hk:key<4294967296) (hO:O.length≤800000) :
  Calls Tryz.prog 32 #[.pointer (some ⟨p,0,none⟩),.int .i64 (key:Int)] w (GTo B p w S (gj X key).1 (O++(gj X key).2) (fun _=>True) (.tuple #[])):=by
 have A0:=GA.start h
 have x17:=A0.c 17 (v:=V.t) rfl
 obtain ⟨at_,ct,et,_⟩:=aq A0.g.gr.1.ta.1
 rw [et] at x17
 have HTb:=Hu A0.g.gr.1.ta.1
 rw [et] at HTb
 have HX:=Hu hm
 have HA:=Hu A0
 have hp:=h.plt
 have h40:=hm.tb.2.1
 obtain ⟨an,han⟩:∃ an,an=X.tab.any fh:=⟨_,rfl⟩
 have HAn:=Hu han
 clear h hm A0 et
 have hcs:=bJ fh X.tab Sl.zero
 cases an with
 | false=>
  have hi:aQ fh X.tab<0:=(ir fh X.tab).2.1 han.symm;have HI:=Hu hi;clear han hcs hi;go_enter Tryz.func32,Tryz.ntmps32;go_wp2_with (go_at_call 57;refine (wM _ #[] kC fh _ X.tab _ HTb.out (by omega) (fun x _ w' _=>sU x w')).mono ?_;rw [← HAn.out];rintro e w1 ⟨rfl,hb1⟩);refine (dn (HA.out.below hb1).g ⟨2,0,0,0,0,9,0⟩ (by omega)).mono ?_;rintro e w2 hc2;obtain ⟨S2,V2,vo2,rfl,A2,_,_,_⟩:=(HA.out.below hb1).call hc2;have HA2:=Hu A2;clear A2 hc2;go_wp2_with fail;refine Ix (v:=.tuple #[]) (by simp [results,Tryz.results32,go_sem]) rfl ?_;unfold gj;rw [if_pos HI.out];exact HA2.out.fin trivial
 | true=>
  have hi:=(ir fh X.tab).1.1 han.symm;obtain ⟨s,hs,es,_,_⟩:=hcs.resolve_left (fun e=>by have:=e.1;omega);have HI:=Hu es;obtain ⟨pb,pc,hpw⟩:∃ pb pc,dC X key (-1)=(pb,pc):=⟨_,_,rfl⟩;have HPk:=Hu (show ux X key (-1) pb pc from by have:=HX.out.pick key (but:=-1) (Or.inl rfl);rw [hpw] at this;exact this);have HPw:=Hu hpw;clear han hcs hi es hpw;go_enter Tryz.func32,Tryz.ntmps32;go_wp2_with (go_at_call 57;refine (wM _ #[] kC fh _ X.tab _ HTb.out (by omega) (fun x _ w' _=>sU x w')).mono ?_;rw [← HAn.out];rintro e w1 ⟨rfl,hb1⟩);refine (pY (HA.out.below hb1).g.gr key (-1) hk HX.out.ring (HX.out.load (by omega)) (by have:=HX.out.len;omega) _ _ HPk.out).mono ?_;rintro e w2 ⟨rfl,hb2⟩;have HA2:=Hu ((HA.out.below hb1).below hb2);have x17:=HA2.out.c 17 (v:=V.t) rfl;obtain ⟨at_,ct,et,_⟩:=aq HA2.out.g.gr.1.ta.1;rw [et] at x17;have HTb:=Hu HA2.out.g.gr.1.ta.1;rw [et] at HTb;have hp2:=HA2.out.plt;clear hb1 hb2 et;by_cases hpc:pc=0
  ·subst hpc;have hpb:=zm HX.out (key:=key) (but:=-1) (Or.inl rfl) (by rw [HPw.out]);rw [HPw.out] at hpb;obtain ⟨pb0,pb1⟩:0≤pb∧pb≤11:=hpb;obtain ⟨gn,hgn⟩:∃ gn,gn=(X.tab.getD s Sl.zero).gen:=⟨_,rfl⟩;obtain ⟨Y,hY⟩:∃ Y,Y=X.tab.set s ⟨gn,true,(key:Int),pb⟩:=⟨_,rfl⟩;have HGn:=Hu hgn;have HY:=Hu hY;clear hgn hY;go_wp2_with fail;refine (vj _ X.tab s (key:Int) pb _ HTb.out HX.out.tb (by omega) (by omega) pb0 pb1 hs HI.out).mono ?_;rw [← HGn.out,← HY.out];rintro e w3 ⟨v3,rfl,R3,hb3⟩;obtain ⟨a3,c3,rfl,_⟩:=aq R3.1;have HA3:=Hu (HA2.out.below hb3);have HR3:=Hu (dm HA2.out.g R3 (I3 _));have hp3:=HA3.out.plt;have hp3a:p<w3.heap.size+1:=by omega
   have hp3b:p<w3.heap.size+1+1:=by omega
   have hp3c:¬ w3.heap.size=p:=by omega
   have hp3d:¬ w3.heap.size+1=p:=by omega
   have hp3e:¬ w3.heap.size+1+1=p:=by omega
   have x17:=HA3.out.c 17 (v:=V.t) rfl;have x7:=HA3.out.c 7 (v:=.int .i64 X.cf.connect) rfl;have xf:∀ n,w3.frozen? ⟨p,n,none⟩=false:=fun n=>HA3.out.free n;clear R3 hb3 x17;have x17:=ah (Hv w3.heap.size w3) (HA3.out.c 17 (v:=V.t) rfl) hp3;go_wp2_with fail;refine name_c _ (fun w4 hw4=>?_);obtain ⟨bh,hbh⟩:∃ bh,bh=w3.heap.size+1:=⟨_,rfl⟩;obtain ⟨bf,hbf⟩:∃ bf,bf=w3.heap.size+1+1:=⟨_,rfl⟩;have HAc:=Hu (show GA B p w S (w3.setCell ⟨p,17,none⟩ (.slice a3 Y.length c3)) { X with tab:=Y } O S { V with t:=.slice a3 Y.length c3 } vo from HA3.out.cell 17 (.slice a3 Y.length c3) { X with tab:=Y } { V with t:=.slice a3 Y.length c3 } rfl rfl rfl rfl rfl rfl { HA3.out.g.ro with ta:=HR3.out })
   have b4:Below (w3.setCell ⟨p,17,none⟩ (.slice a3 Y.length c3)).heap.size (w3.setCell ⟨p,17,none⟩ (.slice a3 Y.length c3)) w4:=by rw [hw4];exact (((Hv _ _).alloc (I3 _) _).alloc (by simp) _).alloc (by simp;omega) _
   have z4:w4.heap.size=w3.heap.size+1+1+1:=by rw [hw4];simp
   have hf4:w4.heap[bf]?=some (.cells #[.int .i64 (s:Int),.int .i64 gn,.int .i64 (key:Int),.int .i64 pb,.bool false,.int .i64 0,.int .i64 0] 98 (0,0)):=by rw [hw4];exact az _ (by rw [hbf];simp)
   have hh4:w4.heap[bh]?=some (.cells #[.int .i64 (s:Int),.int .i64 gn] 70 (0,0)):=by rw [hw4];exact (heap_alloc_old _ _ (by rw [hbh];simp)).trans (az _ (by rw [hbh];simp))
   have HA4:=Hu (HAc.out.more b4 bf (by rw [hbf];simp;omega) (by omega));have hno:=HAc.out.no (b:=bf) (by rw [hbf];simp;omega);have hnh:=HAc.out.no (b:=bh) (by rw [hbh];simp);have HNo:=Hu hno
   have hbhS:bh∉bf :: S:=by intro hx;rcases List.mem_cons.1 hx with e|e;omega;exact hnh.2.2.2.1 e
   have HbS:=Hu hbhS;rw [← hbf,← hbh];have c0:w4.cell? ⟨bf,0,none⟩=some (.int .i64 (s:Int)):=ae hf4 0;have c6:w4.cell? ⟨bf,0+6,none⟩=some (.int .i64 0):=ae hf4 6;have cf6:w4.frozen? ⟨bf,0+6,none⟩=false:=ap hf4 6;have hcn:=HX.out.cf.1.1;have hn1:=HX.out.n1
   have htm:dJ ⟨X.now+X.cf.connect,(s:Int)⟩ X.now:=by unfold dJ;simp only;omega
   have HTm:=Hu htm;have lbf:bf<w4.heap.size:=by omega
   have lbh:bh<w4.heap.size:=by omega
   have HF4:=Hu hf4;have HH4:=Hu hh4;clear hw4 hbf hbh b4 z4 hf4 hh4 hno hnh hbhS hcn hn1 htm x17 x7 xf hp3a hp3b hp3c hp3d hp3e HAc;refine (mp HA4.out.g bf 0 (s:Int) X.cf.connect X.flows _ HA4.out.g.sp lbf HNo.out.2.2.2.2 c0 0 c6 cf6 (fun w' X' V' gG ef ev eh _=>by have hl:=r8 gG bf (0+6) (.int .i64 (X.now+X.cf.connect)) Im HNo.out.2.2.2.2 (by rw [ev];exact HNo.out.1) (by rw [eh];exact HNo.out.2.1) HNo.out.2.2.1;have e:({ X' with flows:=X.flows }:Wd)=X':=(by obtain ⟨x0,x1,x2,x3,x4,x5,x6,x7,x8,x9,x10⟩:=X';simp only at ef;rw [ef]);rw [e];exact hl) HX.out.wh HX.out.wn HTm.out).mono ?_;rintro e w5 ⟨V5,rfl,G5,hK5,hF5,hblk⟩;have HA5:=Hu (HA4.out.same G5 hF5);have hf5:w5.heap[bf]?=some (.cells #[.int .i64 (s:Int),.int .i64 gn,.int .i64 (key:Int),.int .i64 pb,.bool false,.int .i64 0,.int .i64 (X.now+X.cf.connect)] 98 (0,0)):=hblk.trans (aP (j:=6) HF4.out (.int .i64 (X.now+X.cf.connect)));have hh5:=(hF5.block bh lbh HbS.out).trans HH4.out;have HF5:=Hu hf5;have HH5:=Hu hh5
   have HN2:Hid (V5.f.ownBlock≠some bf):=by rw [hK5.1];exact HNo.out.1
   clear G5 hK5 hF5 hblk HF4 HH4 hf5 hh5 HA4 c0 c6 cf6;have x18:=HA5.out.c 18 (v:=V5.f) rfl;obtain ⟨af,cfl,ev,_⟩:=aq HA5.out.g.gr.2.1
   have hn:¬ X.flows.length=0→∃ g,af=some ⟨g,0,none⟩∧g<w5.heap.size∧∀ k,k<X.flows.length→w5.cell? ⟨g,k*7,none⟩=some (.int .i64 (X.flows.getD k Fl.zero).slot):=fun hne=>by
    have hne':X.flows≠[]:=fun e=>hne (by rw [e];rfl);obtain ⟨g,c,e⟩:=HA5.out.shape hne';rw [ev] at e;injection e with e _ _;refine ⟨g,e,?_,fun k hk=>?_⟩
    ·exact (HA5.out.flow (i:=0) (by rw [ev,e]) (show 0<X.flows.length by omega) rfl).2.1
    ·exact (HA5.out.flow (by rw [ev,e]) hk rfl).2.2.2.2.2 0 (by omega)
   rw [ev] at x18;have HN:=Hu hn;have HEv:=Hu ev;have h0:w5.cell? ⟨bh,0,none⟩=some (.int .i64 (s:Int)):=ae HH5.out 0;have hp5:=HA5.out.plt;have lh5:=lt_of_block HH5.out;have lf5:=lt_of_block HF5.out;have hlen:=HX.out.len;obtain ⟨iA,hiA⟩:∃ iA,iA=jP X.flows (s:Int):=⟨_,rfl⟩
   have hiL:iA≤X.flows.length:=by rw [hiA];exact vP _ _
   have HIl:Hid (∀ j,j<iA→(X.flows.getD j Fl.zero).slot<(s:Int)):=fun j hj=>vO (by rw [← hiA];exact hj)
   have HIn:Hid (iA<X.flows.length→¬ (X.flows.getD iA Fl.zero).slot<(s:Int)):=fun hj=>by have:=vN (F:=X.flows) (s:=(s:Int)) (by rw [← hiA];exact hj);rw [hiA];exact this
   have HIa:=Hu hiA;clear hn ev hiA;go_wp2_with fail;go_loopw [10] (fun i wr=>∃ k:Nat,k≤iA∧i=.int .i64 k∧Below w5.heap.size w5 wr) (fun i _=>iA - (intOf i).toNat)
   case atStart=>exact ⟨0,I4 _,rfl,Hv _ _⟩
   case round=>
    obtain ⟨k,hk,rfl,hbr⟩:=hrel;have hzr:=hbr.size;have x18:=ah hbr x18 hp5;have h0:=ah hbr h0 lh5;have hpr:p<wr.heap.size:=by omega
    by_cases hkl:k<X.flows.length
    ·have hkl':(k:Int)<(X.flows.length:Int):=by omega
     obtain ⟨g,rfl,hg,hc⟩:=HN.out (by omega);have ck:=ah hbr (hc k hkl) hg;obtain ⟨fs,hfs⟩:∃ fs,fs=(X.flows.getD k Fl.zero).slot:=⟨_,rfl⟩;rw [← hfs] at ck;have HFs:=Hu hfs;have HB:=Hu hbr;clear hc hfs hbr;by_cases hki:k<iA
     ·have hlt:fs<(s:Int):=by have:=HIl.out k hki;rw [← HFs.out] at this;exact this
      have hki':(k:Int)<(iA:Int):=by omega
      go_wp2_with fail;refine Zr (fun w':World=>w'.cell? ⟨p,18,none⟩=some (.slice (some ⟨g,0,none⟩) X.flows.length cfl)∧w'.cell? ⟨g,k*7,none⟩=some (.int .i64 fs)∧w'.cell? ⟨bh,0,none⟩=some (.int .i64 (s:Int))) (fun hHeld=>?_);refine ep 0 ?_;refine ep 8 ?_;refine eP 16 ?_;refine df 20 ?_;refine Zt 22 ?_;refine Zd ?_;go_wp2;go_roundw
      case rel=>exact ⟨k+1,by omega,by go_num,Hx HB.out⟩
      case measure=>simp [intOf];omega
     ·obtain rfl:k=iA:=by omega
      have hlt:¬ fs<(s:Int):=by have:=HIn.out hkl;rw [← HFs.out] at this;omega
      go_wp2_with fail;refine Zr (fun w':World=>w'.cell? ⟨p,18,none⟩=some (.slice (some ⟨g,0,none⟩) X.flows.length cfl)∧w'.cell? ⟨g,k*7,none⟩=some (.int .i64 fs)∧w'.cell? ⟨bh,0,none⟩=some (.int .i64 (s:Int))) (fun hHeld=>?_);refine ep 0 ?_;refine ep 8 ?_;refine eP 16 ?_;refine df 20 ?_;refine Zt 22 ?_;refine Zd ?_;go_wp2_with fail;refine aY _ (fun wq hwq=>?_)
      have bq:Below w5.heap.size w5 wq:=by rw [hwq];exact Hx HB.out
      have HAq:=Hu (HA5.out.below bq)
      have x18:wq.cell? ⟨p,18,none⟩=some (.slice (some ⟨g,0,none⟩) X.flows.length cfl):=by rw [hwq];exact x18
      have hfq:=aj bq HF5.out lf5;have hhq:=aj bq HH5.out lh5;have HFq:=Hu hfq;have HHq:=Hu hhq;have y0:wq.cell? ⟨bf,0,none⟩=some (.int .i64 (s:Int)):=ae hfq 0;have y1:wq.cell? ⟨bf,1,none⟩=some (.int .i64 gn):=ae hfq 1;have y2:wq.cell? ⟨bf,2,none⟩=some (.int .i64 (key:Int)):=ae hfq 2;have y3:wq.cell? ⟨bf,3,none⟩=some (.int .i64 pb):=ae hfq 3;have y4:wq.cell? ⟨bf,4,none⟩=some (.bool false):=ae hfq 4;have y5:wq.cell? ⟨bf,5,none⟩=some (.int .i64 0):=ae hfq 5;have y6:wq.cell? ⟨bf,6,none⟩=some (.int .i64 (X.now+X.cf.connect)):=ae hfq 6;obtain ⟨fd,hfd⟩:∃ fd,fd=X.now+X.cf.connect:=⟨_,rfl⟩;have HFd:=Hu hfd;rw [← hfd] at y6;have hpq:=HAq.out.plt;have lfq:=lt_of_block hfq;have lhq:=lt_of_block hhq;have xfq:∀ n,wq.frozen? ⟨p,n,none⟩=false:=fun n=>HAq.out.free n;have HOf:=Hu (show wq.ownsRow B 98 7 (.slice (some ⟨g,0,none⟩) X.flows.length cfl) (X.flows.map Fl.cells).length (X.flows.map Fl.cells).flatten from by rw [I9,← HEv.out];exact HAq.out.g.of);have hpne:¬ wq.heap.size=p:=by omega
      have hBq:B≤wq.heap.size:=by have:=HAq.out.g.pB;omega
      have HN1:Hid ((Value.slice (some ⟨g,0,none⟩) X.flows.length cfl).ownBlock≠some wq.heap.size):=by rw [← HEv.out];exact (HAq.out.no (I3 _)).1
      have hBz:B≤((wq.alloc (.cells #[.int .i64 (s:Int),.int .i64 gn,.int .i64 (key:Int),.int .i64 pb,.bool false,.int .i64 0,.int .i64 fd] 98)).drew).heap.size:=by simp;omega
      have hfl1:∀ u∈(X.flows.map Fl.cells).flatten,u.oneCell'=true:=fun u hu=>by
       exact Q149
      have hfl2:∀ u∈Fl.cells ⟨(s:Int),gn,(key:Int),pb,false,0,fd⟩,u.oneCell'=true:=fun u hu=>by
       exact Q75
      have hiL2:k≤(X.flows.map Fl.cells).length:=by rw [I9];exact hiL
      have hln2:(X.flows.map Fl.cells).length≤100000:=by rw [I9];omega
      have HL1:=Hu hfl1;have HL2:=Hu hfl2;clear hwq hfq hhq hfd hfl1 hfl2 bq h0
      have HBz:Hid (wq.heap.size≤((wq.alloc (.cells #[.int .i64 (s:Int),.int .i64 gn,.int .i64 (key:Int),.int .i64 pb,.bool false,.int .i64 0,.int .i64 fd] 98)).drew).heap.size):=by show _≤_;simp
      have HPq:Hid (((wq.alloc (.cells #[.int .i64 (s:Int),.int .i64 gn,.int .i64 (key:Int),.int .i64 pb,.bool false,.int .i64 0,.int .i64 fd] 98)).drew).heap[p]?=wq.heap[p]?):=heap_alloc_old _ _ hpq;have HFq2:Hid (((wq.alloc (.cells #[.int .i64 (s:Int),.int .i64 gn,.int .i64 (key:Int),.int .i64 pb,.bool false,.int .i64 0,.int .i64 fd] 98)).drew).heap[bf]?=wq.heap[bf]?):=heap_alloc_old _ _ lfq
      have HPn:Hid (some p≠(Value.slice (some ⟨g,0,none⟩) X.flows.length cfl).ownBlock):=fun e=>by rw [← HEv.out] at e;exact (HAq.out.g.sf p e.symm).2 rfl
      have HFn:Hid (some bf≠(Value.slice (some ⟨g,0,none⟩) X.flows.length cfl).ownBlock):=fun e=>by rw [← HEv.out] at e;have hn2:=HN2.out;exact hn2 e.symm
      have hbfp:bf≠p:=HNo.out.2.2.2.2;refine Zr (fun w':World=>w'.cell? ⟨bf,0,none⟩=some (.int .i64 (s:Int))∧w'.cell? ⟨bf,1,none⟩=some (.int .i64 gn)∧w'.cell? ⟨bf,2,none⟩=some (.int .i64 (key:Int))∧w'.cell? ⟨bf,3,none⟩=some (.int .i64 pb)∧w'.cell? ⟨bf,4,none⟩=some (.bool false)∧w'.cell? ⟨bf,5,none⟩=some (.int .i64 0)∧w'.cell? ⟨bf,6,none⟩=some (.int .i64 fd)) (fun hHeld=>?_);refine eP 0 ?_;refine Zt 4 ?_;refine df 6 ?_;refine Z2 5 8 (fun K hK=>?_) (fun K hK=>?_);(focus (go_simp;refine Zk hK fun hHeld=>?_;clear hK K;refine Z1 8 (fun K hK=>?_);go_simp;refine Zk hK fun hHeld=>?_;clear hK K));rotate_left 1;(focus (go_simp;refine Zk hK fun hHeld=>?_;clear hK K;refine Z1 5 (fun K hK=>?_);go_simp;refine Zk hK fun hHeld=>?_;clear hK K));rotate_left 1;(all_goals (refine Z1 9 (fun K hK=>?_);go_simp;(go_at_call 63;refine (Dq B _ (X.flows.map Fl.cells) k wq.heap.size (Fl.cells ⟨(s:Int),gn,(key:Int),pb,false,0,fd⟩) _ (bA HOf.out (Hx ((Hv wq.heap.size wq).alloc (I3 _) _))) (iL _) HL1.out rfl HL2.out hiL2 hln2 (cJ wq _) HN1.out hBz).mono ?_;rintro e w7 ⟨v7,rfl,hown7,hgr7,hnew7⟩;obtain ⟨a7,c7,rfl,_,_⟩:=aC hown7;have hz7:=hgr7.size;(try simp at hz7);have hb7:=(hgr7.block bf (Nat.lt_of_lt_of_le lfq HBz.out) HFn.out).trans HFq2.out;have y0:=(I8 (w:=wq) (w':=w7) (a:=⟨bf,0,none⟩) hb7).trans y0;have y1:=(I8 (w:=wq) (w':=w7) (a:=⟨bf,1,none⟩) hb7).trans y1;have y2:=(I8 (w:=wq) (w':=w7) (a:=⟨bf,2,none⟩) hb7).trans y2;have y3:=(I8 (w:=wq) (w':=w7) (a:=⟨bf,3,none⟩) hb7).trans y3;have y4:=(I8 (w:=wq) (w':=w7) (a:=⟨bf,4,none⟩) hb7).trans y4;have y5:=(I8 (w:=wq) (w':=w7) (a:=⟨bf,5,none⟩) hb7).trans y5;have y6:=(I8 (w:=wq) (w':=w7) (a:=⟨bf,6,none⟩) hb7).trans y6;have xf7:w7.frozen? ⟨p,18,none⟩=false:=(World.frozen?_of_block (w:=wq) (w':=w7) (a:=⟨p,18,none⟩) ((hgr7.block p (Nat.lt_of_lt_of_le hpq HBz.out) HPn.out).trans HPq.out)).trans (xfq 18);have x18:w7.cell? ⟨p,18,none⟩=some (.slice (some ⟨g,0,none⟩) X.flows.length cfl):=(I8 (w:=wq) (w':=w7) (a:=⟨p,18,none⟩) ((hgr7.block p (Nat.lt_of_lt_of_le hpq HBz.out) HPn.out).trans HPq.out)).trans x18;(try dsimp only));(try go_wp2_with fail);refine Zk hK fun hHeld=>?_;clear hK K;refine df 10 ?_;refine Zt 12 ?_;refine Z1 13 (fun K hK=>?_);go_simp;refine Zk hK fun hHeld=>?_;clear hK K));(all_goals refine Zd ?_)
      all_goals
       refine aY _ (fun w8 hw8=>?_)
       obtain ⟨F',hF'⟩:∃ F',F'=lU X.flows ⟨(s:Int),gn,(key:Int),pb,false,0,fd⟩:=⟨_,rfl⟩
       have hof:=HAq.out.g.of
       rw [HEv.out] at hof
       have bg:Below B wq w7:=cM (Hx ((Hv wq.heap.size wq).alloc (I3 _) _)) hBq hof hgr7
       rw [I9] at hown7 hnew7
       obtain ⟨S8,g8,fr8,hs8,_⟩:=uy HAq.out.g F' bg (fun b h1 h2=>(hgr7.block b (Nat.lt_of_lt_of_le h1 HBz.out) (fun e=>h2 (by rw [HEv.out];exact e.symm))).trans (heap_alloc_old _ _ h1)) (v':=.slice a7 (X.flows.length+1) c7) (by rw [hF',vM,vL];simp only;rw [← HIa.out];exact hown7) (fun b hb=>(hnew7 b hb).elim (fun e=>Or.inl (by rw [HEv.out];exact e)) (fun e=>Or.inr (Iq HBz.out e)))
       have hh8:=(fr8.block bh lhq HbS.out).trans HHq.out
       have HA8:=HAq.out.step g8 fr8 hs8
       rw [← hw8] at HA8
       rw [← hw8] at hh8
       have HA8:=Hu HA8
       have HFi:=Hu hF'
       have hp8:=HA8.out.plt
       have x10:=HA8.out.c 10 (v:=.int .i64 X.cf.bn) rfl
       have x11:=HA8.out.c 11 (v:=.int .i64 X.cf.bd) rfl
       have x12:=HA8.out.c 12 (v:=.int .i64 X.cf.bb) rfl
       have x23:=HA8.out.c 23 (v:=.int .i64 X.tok) rfl
       have xf8:∀ n,w8.frozen? ⟨p,n,none⟩=false:=fun n=>HA8.out.free n
       have HBu:=Hu HX.out.cf.2.1
       have HT0:Hid (0≤X.tok∧X.tok≤X.cf.bb*X.cf.bd):=⟨HX.out.t0,HX.out.t1⟩
       have lh8:=lt_of_block hh8
       have HH8:=Hu hh8
       have nbp:bh≠p:=by rintro rfl;exact HbS.out (Ip _ HA2.out.g.sp)
       clear hw8 hF' hof bg g8 fr8 hs8 hown7 hgr7 hnew7 hh8 y0 y1 y2 y3 y4 y5 y6 x18 xf7 hb7 hz7
       go_wp2_with fail
       (refine Zr (fun w':World=>w'.cell? ⟨p,10,none⟩=some (.int .i64 X.cf.bn)∧w'.cell? ⟨p,11,none⟩=some (.int .i64 X.cf.bd)∧w'.cell? ⟨p,12,none⟩=some (.int .i64 X.cf.bb)) (fun hHeld=>?_);refine ep 0 ?_;refine df 8 ?_;refine Zt 10 ?_;refine Z1 11 (fun K hK=>?_);go_simp;refine Zk hK fun hHeld=>?_;clear hK K;refine Z1 12 (fun K hK=>?_);go_simp;(go_at_call 43;refine (jy _ _ _ _ _ HBu.out HT0.out).mono ?_;rintro e w9 ⟨rfl,hb9⟩;have bw9:Below w8.heap.size w8 w9:=I0 (Hx (Hv w8.heap.size w8)) (hb9.mono (by simp));have x23:=ah bw9 x23 hp8;have xf9:∀ n,w9.frozen? ⟨p,n,none⟩=false:=(fun n=>(bw9.frozen (p:=⟨p,n,none⟩) hp8).trans (xf8 n));(try dsimp only));(try go_wp2_with fail);refine Zk hK fun hHeld=>?_;clear hK K;refine eP 13 ?_;refine df 17 ?_;refine Z1 19 (fun K hK=>?_);go_simp;refine Zk hK fun hHeld=>?_;clear hK K;refine Zd ?_)
       refine aY _ (fun w10 hw10=>?_)
       have A9:=HA8.out.below bw9
       have HA10:=Hu (show GA B p w S w10 { X with tab:=Y,flows:=F',lists:=jE X.now X.lists (s:Int) X.cf.connect,tok:=min (X.tok+X.cf.bn) (X.cf.bb*X.cf.bd) } O S8 { V5 with f:=.slice a7 (X.flows.length+1) c7 } vo from by rw [hw10];exact A9.cell 23 (.int .i64 (min (X.tok+X.cf.bn) (X.cf.bb*X.cf.bd))) { X with tab:=Y,flows:=F',lists:=jE X.now X.lists (s:Int) X.cf.connect,tok:=min (X.tok+X.cf.bn) (X.cf.bb*X.cf.bd) } { V5 with f:=.slice a7 (X.flows.length+1) c7 } rfl rfl rfl rfl rfl rfl { A9.g.ro with })
       have hh10:w10.heap[bh]?=some (.cells #[.int .i64 (s:Int),.int .i64 gn] 70 (0,0)):=by rw [hw10];exact (I2 _ _ _ _ nbp).trans ((bw9.block bh lh8).trans HH8.out)
       have h0:w10.cell? ⟨bh,0,none⟩=some (.int .i64 (s:Int)):=ae hh10 0
       have h1:w10.cell? ⟨bh,1,none⟩=some (.int .i64 gn):=ae hh10 1
       have hp10:=HA10.out.plt
       clear hw10 A9 bw9 hb9 x23 xf9 hh10 x10 x11 x12 xf8
       go_wp2_with fail
       refine (dn HA10.out.g ⟨1,(s:Int),gn,pb,0,0,0⟩ (by omega)).mono ?_
       rintro e w11 hc11
       obtain ⟨S11,V11,vo11,rfl,A11,_,_,_⟩:=HA10.out.call hc11
       have HA11:=Hu A11
       clear A11 hc11
       go_wp2_with fail
       refine Ix (v:=.tuple #[]) (by simp [results,Tryz.results32,go_sem]) rfl ?_
       unfold gj
       rw [if_neg (by rw [HI.out];omega),if_neg (by rw [HPw.out];simp)]
       unfold pG
       simp only
       rw [HI.out,Id,HPw.out,← HGn.out,← HY.out,← HFd.out,← HFi.out]
       exact HA11.out.fin trivial
    ·obtain rfl:k=iA:=by omega
     have hkl':¬ (k:Int)<(X.flows.length:Int):=by omega
     have HB:=Hu hbr;clear hbr;go_wp2_with fail;refine Zr (fun w':World=>w'.cell? ⟨p,18,none⟩=some (.slice af X.flows.length cfl)) (fun hHeld=>?_);refine ep 0 ?_;refine ep 8 ?_;refine eP 16 ?_;refine df 20 ?_;refine Zt 22 ?_;refine Zd ?_;go_wp2_with fail;refine aY _ (fun wq hwq=>?_)
     have bq:Below w5.heap.size w5 wq:=by rw [hwq];exact Hx HB.out
     have HAq:=Hu (HA5.out.below bq)
     have x18:wq.cell? ⟨p,18,none⟩=some (.slice af X.flows.length cfl):=by rw [hwq];exact x18
     have hfq:=aj bq HF5.out lf5;have hhq:=aj bq HH5.out lh5;have HFq:=Hu hfq;have HHq:=Hu hhq;have y0:wq.cell? ⟨bf,0,none⟩=some (.int .i64 (s:Int)):=ae hfq 0;have y1:wq.cell? ⟨bf,1,none⟩=some (.int .i64 gn):=ae hfq 1;have y2:wq.cell? ⟨bf,2,none⟩=some (.int .i64 (key:Int)):=ae hfq 2;have y3:wq.cell? ⟨bf,3,none⟩=some (.int .i64 pb):=ae hfq 3;have y4:wq.cell? ⟨bf,4,none⟩=some (.bool false):=ae hfq 4;have y5:wq.cell? ⟨bf,5,none⟩=some (.int .i64 0):=ae hfq 5;have y6:wq.cell? ⟨bf,6,none⟩=some (.int .i64 (X.now+X.cf.connect)):=ae hfq 6;obtain ⟨fd,hfd⟩:∃ fd,fd=X.now+X.cf.connect:=⟨_,rfl⟩;have HFd:=Hu hfd;rw [← hfd] at y6;have hpq:=HAq.out.plt;have lfq:=lt_of_block hfq;have lhq:=lt_of_block hhq;have xfq:∀ n,wq.frozen? ⟨p,n,none⟩=false:=fun n=>HAq.out.free n;have HOf:=Hu (show wq.ownsRow B 98 7 (.slice af X.flows.length cfl) (X.flows.map Fl.cells).length (X.flows.map Fl.cells).flatten from by rw [I9,← HEv.out];exact HAq.out.g.of);have hpne:¬ wq.heap.size=p:=by omega
     have hBq:B≤wq.heap.size:=by have:=HAq.out.g.pB;omega
     have HN1:Hid ((Value.slice af X.flows.length cfl).ownBlock≠some wq.heap.size):=by rw [← HEv.out];exact (HAq.out.no (I3 _)).1
     have hBz:B≤((wq.alloc (.cells #[.int .i64 (s:Int),.int .i64 gn,.int .i64 (key:Int),.int .i64 pb,.bool false,.int .i64 0,.int .i64 fd] 98)).drew).heap.size:=by simp;omega
     have hfl1:∀ u∈(X.flows.map Fl.cells).flatten,u.oneCell'=true:=fun u hu=>by
      exact Q149
     have hfl2:∀ u∈Fl.cells ⟨(s:Int),gn,(key:Int),pb,false,0,fd⟩,u.oneCell'=true:=fun u hu=>by
      exact Q75
     have hiL2:k≤(X.flows.map Fl.cells).length:=by rw [I9];exact hiL
     have hln2:(X.flows.map Fl.cells).length≤100000:=by rw [I9];omega
     have HL1:=Hu hfl1;have HL2:=Hu hfl2;clear hwq hfq hhq hfd hfl1 hfl2 bq h0
     have HBz:Hid (wq.heap.size≤((wq.alloc (.cells #[.int .i64 (s:Int),.int .i64 gn,.int .i64 (key:Int),.int .i64 pb,.bool false,.int .i64 0,.int .i64 fd] 98)).drew).heap.size):=by show _≤_;simp
     have HPq:Hid (((wq.alloc (.cells #[.int .i64 (s:Int),.int .i64 gn,.int .i64 (key:Int),.int .i64 pb,.bool false,.int .i64 0,.int .i64 fd] 98)).drew).heap[p]?=wq.heap[p]?):=heap_alloc_old _ _ hpq;have HFq2:Hid (((wq.alloc (.cells #[.int .i64 (s:Int),.int .i64 gn,.int .i64 (key:Int),.int .i64 pb,.bool false,.int .i64 0,.int .i64 fd] 98)).drew).heap[bf]?=wq.heap[bf]?):=heap_alloc_old _ _ lfq
     have HPn:Hid (some p≠(Value.slice af X.flows.length cfl).ownBlock):=fun e=>by rw [← HEv.out] at e;exact (HAq.out.g.sf p e.symm).2 rfl
     have HFn:Hid (some bf≠(Value.slice af X.flows.length cfl).ownBlock):=fun e=>by rw [← HEv.out] at e;have hn2:=HN2.out;exact hn2 e.symm
     have hbfp:bf≠p:=HNo.out.2.2.2.2;refine Zr (fun w':World=>w'.cell? ⟨bf,0,none⟩=some (.int .i64 (s:Int))∧w'.cell? ⟨bf,1,none⟩=some (.int .i64 gn)∧w'.cell? ⟨bf,2,none⟩=some (.int .i64 (key:Int))∧w'.cell? ⟨bf,3,none⟩=some (.int .i64 pb)∧w'.cell? ⟨bf,4,none⟩=some (.bool false)∧w'.cell? ⟨bf,5,none⟩=some (.int .i64 0)∧w'.cell? ⟨bf,6,none⟩=some (.int .i64 fd)) (fun hHeld=>?_);refine eP 0 ?_;refine Zt 4 ?_;refine df 6 ?_;refine Z2 5 8 (fun K hK=>?_) (fun K hK=>?_);(focus (go_simp;refine Zk hK fun hHeld=>?_;clear hK K;refine Z1 8 (fun K hK=>?_);go_simp;refine Zk hK fun hHeld=>?_;clear hK K));rotate_left 1;(focus (go_simp;refine Zk hK fun hHeld=>?_;clear hK K;refine Z1 5 (fun K hK=>?_);go_simp;refine Zk hK fun hHeld=>?_;clear hK K));rotate_left 1;(all_goals (refine Z1 9 (fun K hK=>?_);go_simp;(go_at_call 63;refine (Dq B _ (X.flows.map Fl.cells) k wq.heap.size (Fl.cells ⟨(s:Int),gn,(key:Int),pb,false,0,fd⟩) _ (bA HOf.out (Hx ((Hv wq.heap.size wq).alloc (I3 _) _))) (iL _) HL1.out rfl HL2.out hiL2 hln2 (cJ wq _) HN1.out hBz).mono ?_;rintro e w7 ⟨v7,rfl,hown7,hgr7,hnew7⟩;obtain ⟨a7,c7,rfl,_,_⟩:=aC hown7;have hz7:=hgr7.size;(try simp at hz7);have hb7:=(hgr7.block bf (Nat.lt_of_lt_of_le lfq HBz.out) HFn.out).trans HFq2.out;have y0:=(I8 (w:=wq) (w':=w7) (a:=⟨bf,0,none⟩) hb7).trans y0;have y1:=(I8 (w:=wq) (w':=w7) (a:=⟨bf,1,none⟩) hb7).trans y1;have y2:=(I8 (w:=wq) (w':=w7) (a:=⟨bf,2,none⟩) hb7).trans y2;have y3:=(I8 (w:=wq) (w':=w7) (a:=⟨bf,3,none⟩) hb7).trans y3;have y4:=(I8 (w:=wq) (w':=w7) (a:=⟨bf,4,none⟩) hb7).trans y4;have y5:=(I8 (w:=wq) (w':=w7) (a:=⟨bf,5,none⟩) hb7).trans y5;have y6:=(I8 (w:=wq) (w':=w7) (a:=⟨bf,6,none⟩) hb7).trans y6;have xf7:w7.frozen? ⟨p,18,none⟩=false:=(World.frozen?_of_block (w:=wq) (w':=w7) (a:=⟨p,18,none⟩) ((hgr7.block p (Nat.lt_of_lt_of_le hpq HBz.out) HPn.out).trans HPq.out)).trans (xfq 18);have x18:w7.cell? ⟨p,18,none⟩=some (.slice af X.flows.length cfl):=(I8 (w:=wq) (w':=w7) (a:=⟨p,18,none⟩) ((hgr7.block p (Nat.lt_of_lt_of_le hpq HBz.out) HPn.out).trans HPq.out)).trans x18;(try dsimp only));(try go_wp2_with fail);refine Zk hK fun hHeld=>?_;clear hK K;refine df 10 ?_;refine Zt 12 ?_;refine Z1 13 (fun K hK=>?_);go_simp;refine Zk hK fun hHeld=>?_;clear hK K));(all_goals refine Zd ?_)
     all_goals
      refine aY _ (fun w8 hw8=>?_)
      obtain ⟨F',hF'⟩:∃ F',F'=lU X.flows ⟨(s:Int),gn,(key:Int),pb,false,0,fd⟩:=⟨_,rfl⟩
      have hof:=HAq.out.g.of
      rw [HEv.out] at hof
      have bg:Below B wq w7:=cM (Hx ((Hv wq.heap.size wq).alloc (I3 _) _)) hBq hof hgr7
      rw [I9] at hown7 hnew7
      obtain ⟨S8,g8,fr8,hs8,_⟩:=uy HAq.out.g F' bg (fun b h1 h2=>(hgr7.block b (Nat.lt_of_lt_of_le h1 HBz.out) (fun e=>h2 (by rw [HEv.out];exact e.symm))).trans (heap_alloc_old _ _ h1)) (v':=.slice a7 (X.flows.length+1) c7) (by rw [hF',vM,vL];simp only;rw [← HIa.out];exact hown7) (fun b hb=>(hnew7 b hb).elim (fun e=>Or.inl (by rw [HEv.out];exact e)) (fun e=>Or.inr (Iq HBz.out e)))
      have hh8:=(fr8.block bh lhq HbS.out).trans HHq.out
      have HA8:=HAq.out.step g8 fr8 hs8
      rw [← hw8] at HA8
      rw [← hw8] at hh8
      have HA8:=Hu HA8
      have HFi:=Hu hF'
      have hp8:=HA8.out.plt
      have x10:=HA8.out.c 10 (v:=.int .i64 X.cf.bn) rfl
      have x11:=HA8.out.c 11 (v:=.int .i64 X.cf.bd) rfl
      have x12:=HA8.out.c 12 (v:=.int .i64 X.cf.bb) rfl
      have x23:=HA8.out.c 23 (v:=.int .i64 X.tok) rfl
      have xf8:∀ n,w8.frozen? ⟨p,n,none⟩=false:=fun n=>HA8.out.free n
      have HBu:=Hu HX.out.cf.2.1
      have HT0:Hid (0≤X.tok∧X.tok≤X.cf.bb*X.cf.bd):=⟨HX.out.t0,HX.out.t1⟩
      have lh8:=lt_of_block hh8
      have HH8:=Hu hh8
      have nbp:bh≠p:=by rintro rfl;exact HbS.out (Ip _ HA2.out.g.sp)
      clear hw8 hF' hof bg g8 fr8 hs8 hown7 hgr7 hnew7 hh8 y0 y1 y2 y3 y4 y5 y6 x18 xf7 hb7 hz7
      go_wp2_with fail
      (refine Zr (fun w':World=>w'.cell? ⟨p,10,none⟩=some (.int .i64 X.cf.bn)∧w'.cell? ⟨p,11,none⟩=some (.int .i64 X.cf.bd)∧w'.cell? ⟨p,12,none⟩=some (.int .i64 X.cf.bb)) (fun hHeld=>?_);refine ep 0 ?_;refine df 8 ?_;refine Zt 10 ?_;refine Z1 11 (fun K hK=>?_);go_simp;refine Zk hK fun hHeld=>?_;clear hK K;refine Z1 12 (fun K hK=>?_);go_simp;(go_at_call 43;refine (jy _ _ _ _ _ HBu.out HT0.out).mono ?_;rintro e w9 ⟨rfl,hb9⟩;have bw9:Below w8.heap.size w8 w9:=I0 (Hx (Hv w8.heap.size w8)) (hb9.mono (by simp));have x23:=ah bw9 x23 hp8;have xf9:∀ n,w9.frozen? ⟨p,n,none⟩=false:=(fun n=>(bw9.frozen (p:=⟨p,n,none⟩) hp8).trans (xf8 n));(try dsimp only));(try go_wp2_with fail);refine Zk hK fun hHeld=>?_;clear hK K;refine eP 13 ?_;refine df 17 ?_;refine Z1 19 (fun K hK=>?_);go_simp;refine Zk hK fun hHeld=>?_;clear hK K;refine Zd ?_)
      refine aY _ (fun w10 hw10=>?_)
      have A9:=HA8.out.below bw9
      have HA10:=Hu (show GA B p w S w10 { X with tab:=Y,flows:=F',lists:=jE X.now X.lists (s:Int) X.cf.connect,tok:=min (X.tok+X.cf.bn) (X.cf.bb*X.cf.bd) } O S8 { V5 with f:=.slice a7 (X.flows.length+1) c7 } vo from by rw [hw10];exact A9.cell 23 (.int .i64 (min (X.tok+X.cf.bn) (X.cf.bb*X.cf.bd))) { X with tab:=Y,flows:=F',lists:=jE X.now X.lists (s:Int) X.cf.connect,tok:=min (X.tok+X.cf.bn) (X.cf.bb*X.cf.bd) } { V5 with f:=.slice a7 (X.flows.length+1) c7 } rfl rfl rfl rfl rfl rfl { A9.g.ro with })
      have hh10:w10.heap[bh]?=some (.cells #[.int .i64 (s:Int),.int .i64 gn] 70 (0,0)):=by rw [hw10];exact (I2 _ _ _ _ nbp).trans ((bw9.block bh lh8).trans HH8.out)
      have h0:w10.cell? ⟨bh,0,none⟩=some (.int .i64 (s:Int)):=ae hh10 0
      have h1:w10.cell? ⟨bh,1,none⟩=some (.int .i64 gn):=ae hh10 1
      have hp10:=HA10.out.plt
      clear hw10 A9 bw9 hb9 x23 xf9 hh10 x10 x11 x12 xf8
      go_wp2_with fail
      refine (dn HA10.out.g ⟨1,(s:Int),gn,pb,0,0,0⟩ (by omega)).mono ?_
      rintro e w11 hc11
      obtain ⟨S11,V11,vo11,rfl,A11,_,_,_⟩:=HA10.out.call hc11
      have HA11:=Hu A11
      clear A11 hc11
      go_wp2_with fail
      refine Ix (v:=.tuple #[]) (by simp [results,Tryz.results32,go_sem]) rfl ?_
      unfold gj
      rw [if_neg (by rw [HI.out];omega),if_neg (by rw [HPw.out];simp)]
      unfold pG
      simp only
      rw [HI.out,Id,HPw.out,← HGn.out,← HY.out,← HFd.out,← HFi.out]
      exact HA11.out.fin trivial
  ·have hne:(pc != 0)=true:=by simpa using hpc
   have HPc:=Hu hpc;clear hpc;go_wp2_with fail;refine (dn HA2.out.g ⟨2,0,0,0,0,11,0⟩ (by omega)).mono ?_;rintro e w3 hc3;obtain ⟨S3,V3,vo3,rfl,A3,_,_,_⟩:=HA2.out.call hc3;have HA3:=Hu A3;clear A3 hc3;go_wp2_with fail;refine Ix (v:=.tuple #[]) (by simp [results,Tryz.results32,go_sem]) rfl ?_;unfold gj;rw [if_neg (by rw [HI.out];omega),if_pos (by rw [HPw.out];exact HPc.out)];exact HA3.out.fin trivial
theorem Bd (a:Fl) (F:List Fl) (f:Fl):lU (a :: F) f=if a.slot<f.slot then a :: lU F f else f :: a :: F:=by
 unfold lU;rw [lV];by_cases h:a.slot<f.slot
 ·rw [if_pos h,if_pos h]
  rfl
 ·rw [if_neg h,if_neg h]
  rfl
theorem sy (F:List Fl) (f:Fl):(lU F f).Perm (F++[f]):=by
 unfold lU;refine List.perm_middle.trans ?_;rw [Io];exact (List.perm_append_comm (l₁:=[f]) (l₂:=F))
theorem jn {F:List Fl} {f g:Fl}:g∈lU F f↔g=f∨g∈F:=by
 rw [(sy F f).mem_iff];simp [or_comm]
theorem zA {f:Fl}:∀ {F:List Fl},(F.Pairwise fun a b=>a.slot<b.slot)→(∀ g∈F,g.slot≠f.slot)→(lU F f).Pairwise fun a b=>a.slot<b.slot
 | [],_,_=>by simp [lU]
 | a :: F,hs,hn=>by
  rw [List.pairwise_cons] at hs;have ha:=hn a (Im ..);rw [Bd];by_cases h:a.slot<f.slot
  ·rw [if_pos h,List.pairwise_cons];refine ⟨fun g hg=>?_,zA hs.2 (fun g hg=>hn g (Ip _ hg))⟩;rcases jn.1 hg with rfl|hg
   ·exact h
   ·exact hs.1 g hg
  ·exact Q114
theorem Ca {now:Int} {F H:List Fl} (h:F.Perm H):(ej now F).Perm (ej now H):=(h.filter _).map _
theorem Ak {X:Wd} (h:GwMay X) {key s:Nat} (hk:key<4294967296) (hs:s<X.tab.length) (hf:fh (X.tab.getD s Sl.zero)=true) {b:Int} (hb:gL X.lives b=2):GwMay (pG X key s b):=by
 have hsl:=nm h.tb hs
 have hu:(X.tab.getD s Sl.zero).used=false∧(X.tab.getD s Sl.zero).gen<1048576:=by
  unfold fh at hf;simpa using hf
 have hge:0≤(X.tab.getD s Sl.zero).gen:=by
  unfold dw at hsl;rw [hu.1] at hsl;simp at hsl;exact hsl.1
 have hno:∀ g∈X.flows,g.slot≠(s:Int):=by
  intro g hg e;have:=(h.fl g hg).sl;rw [e,Id] at this;rw [this] at hu;exact absurd hu.1 (by simp)
 have hbb:=Ch h.bk (Or.inl hb);have hcn:=h.cf.1.1;have hcr:=h.cf.1.2.2;have ht0:=h.t0;have ht1:=h.t1
 have hbn:0≤X.cf.bn:=by have:=h.cf.2.1;unfold i8 at this;omega
 generalize hgn:(X.tab.getD s Sl.zero).gen=gn at hu hge;unfold pG;rw [hgn];refine { cf:=h.cf,n0:=h.n0,n1:=h.n1,tb:=?_,tl:=?_,bk:=h.bk,hl:=h.hl,ht:=h.ht,ho:=h.ho,t0:=?_,t1:=?_,rg:=h.rg,wn:=h.wn,wl:=?_,so:=zA h.so hno,fl:=fun k hk=>?_,us:=?_,dr:=?_,si:=h.si }
 ·refine oX h.tb _ ?_;unfold dw;simp only [if_true];omega
 ·simp only [Ig];exact h.tl
 ·simp only;omega
 ·simp only;omega
 ·simp only;unfold jE;refine fF ?_;refine List.Perm.trans ?_ (Ca (sy _ _)).symm;rw [fT,zb (by simp only;omega)];refine List.Perm.append_right _ ?_;refine (h.whp.filter _).trans ?_;rw [tf hno]
 ·rcases jn.1 hk with rfl|hk
  ·refine ⟨by simp only;omega,by simp only [Ig];omega,?_,by simp only;omega,by simp only;omega,Or.inl hb,by simp only;omega,by simp only;omega⟩;simp only;rw [Id,cO hs,if_pos rfl]
  ·have h2:=h.fl k hk;have hne:=hno k hk;have g0:=h2.s0;refine ⟨h2.s0,by simp only [Ig];exact h2.s1,?_,h2.r0,h2.r1,h2.st,h2.d0,h2.d1⟩;simp only;rw [cO hs,if_neg (by omega)];exact h2.sl
 ·intro q hq hqu;simp only [Ig] at hq hqu;rw [cO hs] at hqu;by_cases e:s=q
  ·exact ⟨_,jn.2 (Or.inl rfl),by simp only;omega⟩
  ·rw [if_neg e] at hqu;obtain ⟨k,hk,hks⟩:=h.us q hq hqu;exact ⟨k,jn.2 (Or.inr hk),hks⟩
 ·intro x hx h3;obtain ⟨k,hk,hkb⟩:=h.dr x hx h3;exact ⟨k,jn.2 (Or.inr hk),hkb⟩
theorem CQ {X:Wd} (h:GwMay X) {key:Nat} (hk:key<4294967296):GwMay (gj X key).1:=by
 unfold gj;by_cases h1:aQ fh X.tab<0
 ·rw [if_pos h1];exact h
 ·rw [if_neg h1];by_cases h2:(dC X key (-1)).2≠0
  ·rw [if_pos h2];exact h
  ·rw [if_neg h2];obtain ⟨x,hx,hx2,hxb⟩:=tK h (but:=-1) (Or.inl rfl) (Decidable.not_not.1 h2);have hst:=pH (cG h.bk) hx;rw [hxb,hx2] at hst;rcases bJ fh X.tab Sl.zero with ⟨he,_⟩|⟨i,hi,he,hp,_⟩
   ·rw [he] at h1;omega
   ·simp only;rw [he,Id];exact Ak h hk hi hp hst
theorem CG (a:Lf) (L:List Lf) (b:Int):nB (a :: L) b=if a.backend<b then nB L b+1 else 0:=by
 unfold nB;rw [List.findIdx_cons];by_cases h:a.backend<b<;>simp [h]
theorem Bc (a:Lf) (L:List Lf) (y:Lf):eo (a :: L) (nB (a :: L) y.backend) y=if a.backend<y.backend then a :: eo L (nB L y.backend) y else y :: a :: L:=by
 unfold eo;rw [CG];by_cases h:a.backend<y.backend
 ·rw [if_pos h,if_pos h]
  rfl
 ·rw [if_neg h,if_neg h]
  rfl
theorem kt {α:Type} {L:List α} {k:Nat} {y x:α}:x∈eo L k y↔x=y∨x∈L:=by
 unfold eo;have e:L=L.take k++L.drop k:=(Io k L).symm
 conv=>rhs;rw [e]
 exact Q77
theorem zz {y:Lf}:∀ {L:List Lf},(L.Pairwise fun a b=>a.backend<b.backend)→(∀ g∈L,g.backend≠y.backend)→(eo L (nB L y.backend) y).Pairwise fun a b=>a.backend<b.backend
 | [],_,_=>by simp [eo]
 | a :: L,hs,hn=>by
  rw [List.pairwise_cons] at hs;have ha:=hn a (Im ..);rw [Bc];by_cases h:a.backend<y.backend
  ·rw [if_pos h,List.pairwise_cons];refine ⟨fun g hg=>?_,zz hs.2 (fun g hg=>hn g (Ip _ hg))⟩;rcases kt.1 hg with rfl|hg
   ·exact h
   ·exact hs.1 g hg
  ·exact Q114
theorem Db {X:Wd} (h:GwMay X) {R':List Rq} (hR:bF X.lives R') {y:Lf} (hy:ex y) (hn:∀ g∈X.lives,g.backend≠y.backend) (h1:y.state=1) (hsi:y.since≤X.now):GwMay { X with lives:=eo X.lives (nB X.lives y.backend) y,reqs:=R' }:=by
 have hs:=cG h.bk
 have hlw:dM (eo X.lives (nB X.lives y.backend) y)=dM X.lives:=by
  unfold dM;refine List.map_congr_left fun b _=>?_;rw [vG hn];by_cases e:y.backend=(b:Int)
  ·rw [if_pos e]
   cases hl:dt X.lives (b:Nat) with
   | none=>simp only;rw [if_neg (by omega)]
   | some x=>exact absurd ((dz hl).2.trans e.symm) (hn _ (dz hl).1)
  ·rw [if_neg e]
 refine nK h (Hj (fun x hx=>?_) (zz hs hn) hR.2.1 hR.2.2.2.1 hR.2.2.2.2) hlw (fun f hf=>?_) (fun x hx h3=>?_) (fun x hx=>?_)
 ·rcases kt.1 hx with rfl|hx
  ·exact hy
  ·exact eO h.bk hx
 ·have hst:=(h.fl f hf).st;unfold gL at hst ⊢;rw [vG hn];by_cases e:y.backend=f.backend
  ·cases hl:dt X.lives f.backend with
   | none=>rw [hl] at hst;simp at hst
   | some x=>exact absurd ((dz hl).2.trans e.symm) (hn _ (dz hl).1)
  ·rw [if_neg e];exact hst
 ·rcases kt.1 hx with rfl|hx
  ·omega
  ·exact h.dr x hx h3
 ·rcases kt.1 hx with rfl|hx
  ·exact hsi
  ·exact h.si x hx
def fE (k:Int):Int:=if k=6 then 2 else 1
def jF (X:Wd) (e:Ev) (L':List Lf) (R':List Rq) (ans:Int) (nw:Bool):Wd×List Out:=
 let X1:Wd:={ X with lives:=L',reqs:=R' }
 if nw=false∨ans≠0∨e.kind≠6 then (X1,[⟨8,0,0,0,e.request,ans,0⟩])
 else if gL X.lives e.backend=1 then (X1,[⟨8,0,0,0,e.request,ans,0⟩,⟨9,0,0,e.backend,e.request,0,0⟩])
 else ((bZ { X1 with ring:=bO (dM L') } e.backend).1,⟨8,0,0,0,e.request,ans,0⟩ :: (bZ { X1 with ring:=bO (dM L') } e.backend).2)
structure uD (e:Ev):Prop where
 k:e.kind=5∨e.kind=6
 r0:0≤e.request
 r1:e.request≤1048576
 b0:0≤e.backend
 b1:e.backend≤11
theorem rT {B p:Nat} {w:World} {X:Wd} {O:List Out} {S:List Nat} {V:Vs} {vo:Value} (h:G B p w X O S V vo) (hm:GwMay X) (e:Ev) (he:uD e) (hO:O.length≤700000) (L':List Lf) (R':List Rq) (ans:Int) (nw:Bool)
  (hg:oG X.lives X.reqs ⟨e.request,fE e.kind,e.backend,e.weight,0⟩ X.now X.cf.drain L' R' ans nw) (hb':bF L' R')
  (hrm:nw=true→ans=0→e.kind=6→gL X.lives e.backend≠1→ut X.ring e.backend (bO (dM L')) 0) :
  Calls Tryz.prog 33 #[.pointer (some ⟨p,0,none⟩),.agg (Ev.cells e).toArray] w (GTo B p w S (jF X e L' R' ans nw).1 (O++(jF X e L' R' ans nw).2) (fun _=>True) (.tuple #[])):=by
 have HA0:=Hu (GA.start h)
 have HX:=Hu hm
 have hp:=h.plt
 obtain ⟨k,ky,sl,gn,gd,rq,bk,wt⟩:=e
 obtain ⟨hk,r0,r1,b0,b1⟩:=he
 simp only at hk r0 r1 b0 b1 hg hrm
 have hd:=hm.cf.1.1
 have hn:=hm.n0
 have hn1:=hm.n1
 have HAs:=Hu (show ED X.lives X.reqs ⟨rq,fE k,bk,wt,0⟩ X.now X.cf.drain L' R' ans nw 0 from Or.inr (Or.inr ⟨hm.bk,⟨⟨r0,r1,by simp only;unfold fE;split<;>omega⟩,⟨hn,by omega⟩,by omega,by omega⟩,hg,rfl⟩))
 have HBk:=Hu hb'
 have HRm:=Hu hrm
 unfold Ev.cells
 obtain ⟨AW,hAW⟩:∃ AW,AW=jF X ⟨k,ky,sl,gn,gd,rq,bk,wt⟩ L' R' ans nw:=⟨_,rfl⟩
 have HAW:=Hu hAW
 rw [← hAW]
 obtain ⟨kd,hkd⟩:∃ kd,kd=fE k:=⟨_,rfl⟩
 rw [← hkd] at HAs
 clear h hm hd hn hn1 hg hb' hrm hAW
 have l1:¬ w.heap.size+1=w.heap.size:=by omega
 have l2:¬ w.heap.size=w.heap.size+1:=by omega
 have l3:w.heap.size<w.heap.size+1:=by omega
 rcases hk with rfl|rfl
 ·obtain rfl:kd=1:=hkd;go_enter Tryz.func33,Tryz.ntmps33;go_wp2_with fail;refine eV _ (fun wr hwr=>?_)
  have bwr:Below w.heap.size w wr:=by rw [hwr];exact ((Hv _ _).alloc (I3 _) _).alloc (by simp) _
  obtain ⟨be,hbe⟩:∃ be,be=w.heap.size:=⟨_,rfl⟩;obtain ⟨br,hbr⟩:∃ br,br=w.heap.size+1:=⟨_,rfl⟩
  have heb:wr.heap[be]?=some (.cells #[.int .i64 5,.int .i64 ky,.int .i64 sl,.int .i64 gn,.bool gd,.int .i64 rq,.int .i64 bk,.int .i64 wt] 72 (0,0)):=by rw [hwr,hbe];exact (heap_alloc_old _ _ (by simp)).trans (az _ rfl)
  have hrb:wr.heap[br]?=some (.cells #[.int .i64 rq,.int .i64 1,.int .i64 bk,.int .i64 wt,.int .i64 0] 148 (0,0)):=by rw [hwr];exact az _ (by rw [hbr];simp)
  have hbn:be∉S:=by rw [hbe];exact (HA0.out.no (I3 _)).2.2.2.1
  rw [← hbr,← hbe];have HAr:=Hu (HA0.out.below bwr);have HBn:=Hu hbn;clear hwr hbe hbr bwr hbn l1 l2 l3;obtain ⟨st,hst⟩:∃ st,st=gL X.lives bk:=⟨_,rfl⟩;have HSt:=Hu hst;clear hst;refine (dY HAr.out.g.gr bk HX.out.bk).mono ?_;rw [← HSt.out];rintro e w2 ⟨rfl,hb2⟩;have HA2:=Hu (HAr.out.below hb2);have heb:=aj hb2 heb (lt_of_block heb);have hrb:=aj hb2 hrb (lt_of_block hrb);have HEb:=Hu heb;have lbr:=lt_of_block hrb;have lbe:=lt_of_block heb;have q0:w2.cell? ⟨br,0,none⟩=some (.int .i64 rq):=ae hrb 0;have q1:w2.cell? ⟨br,1,none⟩=some (.int .i64 1):=ae hrb 1;have q2:w2.cell? ⟨br,2,none⟩=some (.int .i64 bk):=ae hrb 2;have q3:w2.cell? ⟨br,3,none⟩=some (.int .i64 wt):=ae hrb 3;have q4:w2.cell? ⟨br,4,none⟩=some (.int .i64 0):=ae hrb 4;have x16:=HA2.out.c 16 (v:=.int .i64 X.now) rfl;have x5:=HA2.out.c 5 (v:=.int .i64 X.cf.drain) rfl;have x19:=HA2.out.c 19 (v:=V.l) rfl;have x20:=HA2.out.c 20 (v:=V.r) rfl;obtain ⟨al,cl,el,_⟩:=aq HA2.out.g.gr.1.li.1;obtain ⟨ar,cr,er,_⟩:=aq HA2.out.g.gr.1.re.1;rw [el] at x19;rw [er] at x20;have HL:=Hu HA2.out.g.gr.1.li.1;have HR:=Hu HA2.out.g.gr.1.re.1;rw [el] at HL;rw [er] at HR;have hp2:=HA2.out.plt;clear el er hb2 heb hrb;go_wp2_with fail;refine Hb (P:=?jP5) (F:=fun (nb:Nat) (a1:Option Addr) (c1:Nat) (a2:Option Addr) (c2:Nat) wz=>Below w2.heap.size w2 wz∧wz.heap[nb]?=some (.cells #[.slice a1 L'.length c1,.slice a2 R'.length c2] 52 (0,0))∧aM w2.heap.size wz 6 (.slice a1 L'.length c1) (L'.map Lf.cells)∧aM w2.heap.size wz 5 (.slice a2 R'.length c2) (R'.map Rq.cells)) (fun key=>?jm5) ?jr5
  case jm5=>
   refine Zr (fun w':World=>w'.cell? ⟨p,19,none⟩=some (.slice al X.lives.length cl)∧w'.cell? ⟨p,20,none⟩=some (.slice ar X.reqs.length cr)∧w'.cell? ⟨p,16,none⟩=some (.int .i64 X.now)∧w'.cell? ⟨p,5,none⟩=some (.int .i64 X.cf.drain)∧w'.cell? ⟨br,0,none⟩=some (.int .i64 rq)∧w'.cell? ⟨br,1,none⟩=some (.int .i64 1)∧w'.cell? ⟨br,2,none⟩=some (.int .i64 bk)∧w'.cell? ⟨br,3,none⟩=some (.int .i64 wt)∧w'.cell? ⟨br,4,none⟩=some (.int .i64 0)) (fun hHeld=>?_);refine ep 0 ?_;refine ep 8 ?_;refine Zt 16 ?_;refine Z2 17 23 (fun K hK=>?_) (fun K hK=>?_);(focus (go_simp;(go_at_call 65;refine (jz _ _ X.lives X.reqs rq 1 bk wt 0 _ _ L' R' ans nw 0 _ (au HL.out Zb) (au HR.out Zb) HAs.out).mono ?_;rintro e w3 ⟨v1,v2,rfl,R1,R2,hb3⟩;obtain ⟨a1,c1,rfl,_⟩:=aq R1.1;obtain ⟨a2,c2,rfl,_⟩:=aq R2.1;have hz3:=hb3.size;(try simp at hz3);(try (have bxb:=aj hb3 (cJ w2 _) (dL w2 _);have bx0:w3.cell? ⟨w2.heap.size,0,none⟩=some (.slice none 0 0):=ae bxb 0;have bx1:w3.cell? ⟨w2.heap.size,1,none⟩=some (.slice none 0 0):=ae bxb 1;have bxf:∀ n,w3.frozen? ⟨w2.heap.size,n,none⟩=false:=ap bxb));(try dsimp only));(try go_wp2_with fail);refine Zk hK fun hHeld=>?_;clear hK K;refine eP 18 ?_;refine Zt 22 ?_;refine Z1 23 (fun K hK=>?_);go_simp;refine Zk hK fun hHeld=>?_;clear hK K));rotate_left 1;(focus (go_simp;refine Zk hK fun hHeld=>?_;clear hK K;refine Z1 17 (fun K hK=>?_);go_simp;(go_at_call 65;refine (jz _ _ X.lives X.reqs rq 1 bk wt 0 _ _ L' R' ans nw 0 _ (au HL.out Zb) (au HR.out Zb) HAs.out).mono ?_;rintro e w3 ⟨v1,v2,rfl,R1,R2,hb3⟩;obtain ⟨a1,c1,rfl,_⟩:=aq R1.1;obtain ⟨a2,c2,rfl,_⟩:=aq R2.1;have hz3:=hb3.size;(try simp at hz3);(try (have bxb:=aj hb3 (cJ w2 _) (dL w2 _);have bx0:w3.cell? ⟨w2.heap.size,0,none⟩=some (.slice none 0 0):=ae bxb 0;have bx1:w3.cell? ⟨w2.heap.size,1,none⟩=some (.slice none 0 0):=ae bxb 1;have bxf:∀ n,w3.frozen? ⟨w2.heap.size,n,none⟩=false:=ap bxb));(try dsimp only));(try go_wp2_with fail);refine Zk hK fun hHeld=>?_;clear hK K;refine eP 18 ?_;refine Zt 22 ?_));rotate_left 1;(all_goals (refine Z1 24 (fun K hK=>?_);go_simp;refine Zk hK fun hHeld=>?_;clear hK K;refine df 25 ?_;refine Zt 27 ?_));(all_goals refine Zd ?_)
   ·exact Q32
   ·exact Q27
  case jr5=>
   rintro nb a1 c1 a2 c2 wz ⟨hbz,hnz,h1,h2⟩;have HAz:=Hu (HA2.out.below hbz);have hez:=aj hbz HEb.out lbe;have lez:=lt_of_block hez;have HEz:=Hu hez;have z0:wz.cell? ⟨nb,0,none⟩=some (.slice a1 L'.length c1):=ae hnz 0;have z1:wz.cell? ⟨nb,1,none⟩=some (.slice a2 R'.length c2):=ae hnz 1;have e5:wz.cell? ⟨be,5,none⟩=some (.int .i64 rq):=ae hez 5;have x19:=HAz.out.c 19 (v:=V.l) rfl;have x20:=HAz.out.c 20 (v:=V.r) rfl;have xf:∀ n,wz.frozen? ⟨p,n,none⟩=false:=fun n=>HAz.out.free n;have hpz:=HAz.out.plt
   have hepz:¬ be=p:=by intro e;have:=HAr.out.g.sp;rw [← e] at this;exact HBn.out this
   have HK1:=Hu (dm HA2.out.g h1 (I3 _));have HK2:=Hu (dm HA2.out.g h2 (I3 _));clear hbz hnz h1 h2 hez q0 q1 q2 q3 q4 x16 x5;go_wp2_with fail;refine eV _ (fun w4 hw4=>?_);have A4:=HAz.out.cell 19 (.slice a1 L'.length c1) { X with lives:=L' } { V with l:=.slice a1 L'.length c1 } rfl rfl rfl rfl rfl rfl { HAz.out.g.ro with li:=HK1.out };have A4:=A4.cell 20 (.slice a2 R'.length c2) { X with lives:=L',reqs:=R' } { V with l:=.slice a1 L'.length c1,r:=.slice a2 R'.length c2 } rfl rfl rfl rfl rfl rfl { A4.g.ro with re:=bG HK2.out (by simp) (fun b _ hb=>I2 _ _ _ _ (fun e=>hb.1 (by have e':b=p:=e;rw [e'];exact HAz.out.g.sp))) }
   have he4:w4.heap[be]?=some (.cells #[.int .i64 5,.int .i64 ky,.int .i64 sl,.int .i64 gn,.bool gd,.int .i64 rq,.int .i64 bk,.int .i64 wt] 72 (0,0)):=by rw [hw4];exact (I2 _ _ _ _ hepz).trans ((I2 _ _ _ _ hepz).trans HEz.out)
   rw [← hw4] at A4;have HA4:=Hu A4;have HE4:=Hu he4;have le4:=lt_of_block he4;clear A4 he4 hw4 z0 z1 e5 x19 x20 xf;refine (dn HA4.out.g ⟨8,0,0,0,rq,ans,0⟩ (by omega)).mono ?_;rintro e w5 hc5;obtain ⟨S5,V5,vo5,rfl,A5,hq5,hz5,hb5⟩:=HA4.out.call hc5;have HA5:=Hu A5;have he5:=(hb5 be le4 HBn.out).trans HE4.out;have HE5:=Hu he5;have e0:w5.cell? ⟨be,0,none⟩=some (.int .i64 5):=ae he5 0;have e5:w5.cell? ⟨be,5,none⟩=some (.int .i64 rq):=ae he5 5;have e6:w5.cell? ⟨be,6,none⟩=some (.int .i64 bk):=ae he5 6;clear A5 hc5 hq5 hb5 he5
   cases nw with
   | false=>
    exact Q97
   | true=>
    by_cases ha0:ans=0
    ·subst ha0;go_wp2_with fail;refine Ix (v:=.tuple #[]) (by simp [results,Tryz.results33,go_sem]) rfl ?_;rw [HAW.out];unfold jF;simp only;rw [if_pos (by simp)];exact HA5.out.fin trivial
    ·exact Q72
 ·obtain rfl:kd=2:=hkd;go_enter Tryz.func33,Tryz.ntmps33;go_wp2_with fail;refine eV _ (fun wr hwr=>?_)
  have bwr:Below w.heap.size w wr:=by rw [hwr];exact ((Hv _ _).alloc (I3 _) _).alloc (by simp) _
  obtain ⟨be,hbe⟩:∃ be,be=w.heap.size:=⟨_,rfl⟩;obtain ⟨br,hbr⟩:∃ br,br=w.heap.size+1:=⟨_,rfl⟩
  have heb:wr.heap[be]?=some (.cells #[.int .i64 6,.int .i64 ky,.int .i64 sl,.int .i64 gn,.bool gd,.int .i64 rq,.int .i64 bk,.int .i64 wt] 72 (0,0)):=by rw [hwr,hbe];exact (heap_alloc_old _ _ (by simp)).trans (az _ rfl)
  have hrb:wr.heap[br]?=some (.cells #[.int .i64 rq,.int .i64 2,.int .i64 bk,.int .i64 wt,.int .i64 0] 148 (0,0)):=by rw [hwr];exact az _ (by rw [hbr];simp)
  have hbn:be∉S:=by rw [hbe];exact (HA0.out.no (I3 _)).2.2.2.1
  rw [← hbr,← hbe];have HAr:=Hu (HA0.out.below bwr);have HBn:=Hu hbn;clear hwr hbe hbr bwr hbn l1 l2 l3;obtain ⟨st,hst⟩:∃ st,st=gL X.lives bk:=⟨_,rfl⟩;have HSt:=Hu hst;clear hst;refine (dY HAr.out.g.gr bk HX.out.bk).mono ?_;rw [← HSt.out];rintro e w2 ⟨rfl,hb2⟩;have HA2:=Hu (HAr.out.below hb2);have heb:=aj hb2 heb (lt_of_block heb);have hrb:=aj hb2 hrb (lt_of_block hrb);have HEb:=Hu heb;have lbr:=lt_of_block hrb;have lbe:=lt_of_block heb;have q0:w2.cell? ⟨br,0,none⟩=some (.int .i64 rq):=ae hrb 0;have q1:w2.cell? ⟨br,1,none⟩=some (.int .i64 2):=ae hrb 1;have q2:w2.cell? ⟨br,2,none⟩=some (.int .i64 bk):=ae hrb 2;have q3:w2.cell? ⟨br,3,none⟩=some (.int .i64 wt):=ae hrb 3;have q4:w2.cell? ⟨br,4,none⟩=some (.int .i64 0):=ae hrb 4;have x16:=HA2.out.c 16 (v:=.int .i64 X.now) rfl;have x5:=HA2.out.c 5 (v:=.int .i64 X.cf.drain) rfl;have x19:=HA2.out.c 19 (v:=V.l) rfl;have x20:=HA2.out.c 20 (v:=V.r) rfl;obtain ⟨al,cl,el,_⟩:=aq HA2.out.g.gr.1.li.1;obtain ⟨ar,cr,er,_⟩:=aq HA2.out.g.gr.1.re.1;rw [el] at x19;rw [er] at x20;have HL:=Hu HA2.out.g.gr.1.li.1;have HR:=Hu HA2.out.g.gr.1.re.1;rw [el] at HL;rw [er] at HR;have hp2:=HA2.out.plt;clear el er hb2 heb hrb;go_wp2_with fail;refine Hb (P:=?jP6) (F:=fun (nb:Nat) (a1:Option Addr) (c1:Nat) (a2:Option Addr) (c2:Nat) wz=>Below w2.heap.size w2 wz∧wz.heap[nb]?=some (.cells #[.slice a1 L'.length c1,.slice a2 R'.length c2] 52 (0,0))∧aM w2.heap.size wz 6 (.slice a1 L'.length c1) (L'.map Lf.cells)∧aM w2.heap.size wz 5 (.slice a2 R'.length c2) (R'.map Rq.cells)) (fun key=>?jm6) ?jr6
  case jm6=>
   refine Zr (fun w':World=>w'.cell? ⟨p,19,none⟩=some (.slice al X.lives.length cl)∧w'.cell? ⟨p,20,none⟩=some (.slice ar X.reqs.length cr)∧w'.cell? ⟨p,16,none⟩=some (.int .i64 X.now)∧w'.cell? ⟨p,5,none⟩=some (.int .i64 X.cf.drain)∧w'.cell? ⟨br,0,none⟩=some (.int .i64 rq)∧w'.cell? ⟨br,1,none⟩=some (.int .i64 2)∧w'.cell? ⟨br,2,none⟩=some (.int .i64 bk)∧w'.cell? ⟨br,3,none⟩=some (.int .i64 wt)∧w'.cell? ⟨br,4,none⟩=some (.int .i64 0)) (fun hHeld=>?_);refine ep 0 ?_;refine ep 8 ?_;refine Zt 16 ?_;refine Z2 17 23 (fun K hK=>?_) (fun K hK=>?_);(focus (go_simp;(go_at_call 65;refine (jz _ _ X.lives X.reqs rq 2 bk wt 0 _ _ L' R' ans nw 0 _ (au HL.out Zb) (au HR.out Zb) HAs.out).mono ?_;rintro e w3 ⟨v1,v2,rfl,R1,R2,hb3⟩;obtain ⟨a1,c1,rfl,_⟩:=aq R1.1;obtain ⟨a2,c2,rfl,_⟩:=aq R2.1;have hz3:=hb3.size;(try simp at hz3);(try (have bxb:=aj hb3 (cJ w2 _) (dL w2 _);have bx0:w3.cell? ⟨w2.heap.size,0,none⟩=some (.slice none 0 0):=ae bxb 0;have bx1:w3.cell? ⟨w2.heap.size,1,none⟩=some (.slice none 0 0):=ae bxb 1;have bxf:∀ n,w3.frozen? ⟨w2.heap.size,n,none⟩=false:=ap bxb));(try dsimp only));(try go_wp2_with fail);refine Zk hK fun hHeld=>?_;clear hK K;refine eP 18 ?_;refine Zt 22 ?_;refine Z1 23 (fun K hK=>?_);go_simp;refine Zk hK fun hHeld=>?_;clear hK K));rotate_left 1;(focus (go_simp;refine Zk hK fun hHeld=>?_;clear hK K;refine Z1 17 (fun K hK=>?_);go_simp;(go_at_call 65;refine (jz _ _ X.lives X.reqs rq 2 bk wt 0 _ _ L' R' ans nw 0 _ (au HL.out Zb) (au HR.out Zb) HAs.out).mono ?_;rintro e w3 ⟨v1,v2,rfl,R1,R2,hb3⟩;obtain ⟨a1,c1,rfl,_⟩:=aq R1.1;obtain ⟨a2,c2,rfl,_⟩:=aq R2.1;have hz3:=hb3.size;(try simp at hz3);(try (have bxb:=aj hb3 (cJ w2 _) (dL w2 _);have bx0:w3.cell? ⟨w2.heap.size,0,none⟩=some (.slice none 0 0):=ae bxb 0;have bx1:w3.cell? ⟨w2.heap.size,1,none⟩=some (.slice none 0 0):=ae bxb 1;have bxf:∀ n,w3.frozen? ⟨w2.heap.size,n,none⟩=false:=ap bxb));(try dsimp only));(try go_wp2_with fail);refine Zk hK fun hHeld=>?_;clear hK K;refine eP 18 ?_;refine Zt 22 ?_));rotate_left 1;(all_goals (refine Z1 24 (fun K hK=>?_);go_simp;refine Zk hK fun hHeld=>?_;clear hK K;refine df 25 ?_;refine Zt 27 ?_));(all_goals refine Zd ?_)
   ·exact Q32
   ·exact Q27
  case jr6=>
   rintro nb a1 c1 a2 c2 wz ⟨hbz,hnz,h1,h2⟩;have HAz:=Hu (HA2.out.below hbz);have hez:=aj hbz HEb.out lbe;have lez:=lt_of_block hez;have HEz:=Hu hez;have z0:wz.cell? ⟨nb,0,none⟩=some (.slice a1 L'.length c1):=ae hnz 0;have z1:wz.cell? ⟨nb,1,none⟩=some (.slice a2 R'.length c2):=ae hnz 1;have e5:wz.cell? ⟨be,5,none⟩=some (.int .i64 rq):=ae hez 5;have x19:=HAz.out.c 19 (v:=V.l) rfl;have x20:=HAz.out.c 20 (v:=V.r) rfl;have xf:∀ n,wz.frozen? ⟨p,n,none⟩=false:=fun n=>HAz.out.free n;have hpz:=HAz.out.plt
   have hepz:¬ be=p:=by intro e;have:=HAr.out.g.sp;rw [← e] at this;exact HBn.out this
   have HK1:=Hu (dm HA2.out.g h1 (I3 _));have HK2:=Hu (dm HA2.out.g h2 (I3 _));clear hbz hnz h1 h2 hez q0 q1 q2 q3 q4 x16 x5;go_wp2_with fail;refine eV _ (fun w4 hw4=>?_);have A4:=HAz.out.cell 19 (.slice a1 L'.length c1) { X with lives:=L' } { V with l:=.slice a1 L'.length c1 } rfl rfl rfl rfl rfl rfl { HAz.out.g.ro with li:=HK1.out };have A4:=A4.cell 20 (.slice a2 R'.length c2) { X with lives:=L',reqs:=R' } { V with l:=.slice a1 L'.length c1,r:=.slice a2 R'.length c2 } rfl rfl rfl rfl rfl rfl { A4.g.ro with re:=bG HK2.out (by simp) (fun b _ hb=>I2 _ _ _ _ (fun e=>hb.1 (by have e':b=p:=e;rw [e'];exact HAz.out.g.sp))) }
   have he4:w4.heap[be]?=some (.cells #[.int .i64 6,.int .i64 ky,.int .i64 sl,.int .i64 gn,.bool gd,.int .i64 rq,.int .i64 bk,.int .i64 wt] 72 (0,0)):=by rw [hw4];exact (I2 _ _ _ _ hepz).trans ((I2 _ _ _ _ hepz).trans HEz.out)
   rw [← hw4] at A4;have HA4:=Hu A4;have HE4:=Hu he4;have le4:=lt_of_block he4;clear A4 he4 hw4 z0 z1 e5 x19 x20 xf;refine (dn HA4.out.g ⟨8,0,0,0,rq,ans,0⟩ (by omega)).mono ?_;rintro e w5 hc5;obtain ⟨S5,V5,vo5,rfl,A5,hq5,hz5,hb5⟩:=HA4.out.call hc5;have HA5:=Hu A5;have he5:=(hb5 be le4 HBn.out).trans HE4.out;have HE5:=Hu he5;have e0:w5.cell? ⟨be,0,none⟩=some (.int .i64 6):=ae he5 0;have e5:w5.cell? ⟨be,5,none⟩=some (.int .i64 rq):=ae he5 5;have e6:w5.cell? ⟨be,6,none⟩=some (.int .i64 bk):=ae he5 6;clear A5 hc5 hq5 hb5 he5
   cases nw with
   | false=>
    exact Q97
   | true=>
    by_cases ha0:ans=0
    ·subst ha0;by_cases hs1:st=1
     ·subst hs1;go_wp2_with fail;refine (dn HA5.out.g ⟨9,0,0,bk,rq,0,0⟩ (by rw [Ic,List.length_singleton];omega)).mono ?_;rintro e w6 hc6;obtain ⟨S6,V6,vo6,rfl,A6,_,_,_⟩:=HA5.out.call hc6;have HA6:=Hu A6;clear A6 hc6;go_wp2_with fail;refine Ix (v:=.tuple #[]) (by simp [results,Tryz.results33,go_sem]) rfl ?_;rw [HAW.out];unfold jF;simp only;rw [if_neg (by simp),if_pos HSt.out.symm];have e:O++[(⟨8,0,0,0,rq,0,0⟩:Out),⟨9,0,0,bk,rq,0,0⟩]=O++[⟨8,0,0,0,rq,0,0⟩]++[⟨9,0,0,bk,rq,0,0⟩]:=by simp
      simp only;rw [e];exact HA6.out.fin trivial
     ·have hne1:(st == 1)=false:=by simpa using hs1
      have HS1:=Hu hs1;clear hs1;have x21:=HA5.out.c 21 (v:=V5.s) rfl;obtain ⟨ag,cg,eg,_⟩:=aq HA5.out.g.gr.1.sp.1;rw [eg] at x21;have HSp:=Hu HA5.out.g.gr.1.sp.1;rw [eg] at HSp;have hlen:=js HX.out.ring;have hlen2:X.ring.length*16≤140737488351232:=by omega
      have hp5:=HA5.out.plt;have le5:=lt_of_block HE5.out;have xf:∀ n,w5.frozen? ⟨p,n,none⟩=false:=fun n=>HA5.out.free n;have HRx:=Hu (HRm.out rfl (by trivial) (by trivial) (by rw [← HSt.out];exact HS1.out));clear eg hlen;go_wp2_with fail;refine Zr (fun w':World=>w'.cell? ⟨be,6,none⟩=some (.int .i64 bk)) (fun hHeld=>?_);refine eP 0 ?_;refine Zt 4 ?_;refine df 6 ?_;refine Z1 5 (fun K hK=>?_);go_simp;refine Zk hK fun hHeld=>?_;clear hK K;refine Z1 8 (fun K hK=>?_);go_simp;(go_at_call 66;refine (xR _ X.ring _ _ _ _ (au HSp.out Zb) hlen2 HRx.out).mono ?_;rintro e w6 ⟨v6,rfl,R6,hb6⟩;obtain ⟨a6,c6,rfl,_⟩:=aq R6.1;have bw6:Below w5.heap.size w5 w6:=I0 (Hx (Hv w5.heap.size w5)) (hb6.mono (by simp));have x21:=ah bw6 x21 hp5;have xf:∀ n,w6.frozen? ⟨p,n,none⟩=false:=(fun n=>(bw6.frozen (p:=⟨p,n,none⟩) hp5).trans (xf n));(try dsimp only));(try go_wp2_with fail);refine Zk hK fun hHeld=>?_;clear hK K;refine eP 9 ?_;refine df 13 ?_;refine Z1 15 (fun K hK=>?_);go_simp;refine Zk hK fun hHeld=>?_;clear hK K;refine Zd ?_;refine aY _ (fun w7 hw7=>?_);have A6:=HA5.out.below bw6;have HA7:=Hu (show GA B p w S w7 { X with lives:=L',reqs:=R',ring:=bO (dM L') } (O++[⟨8,0,0,0,rq,0,0⟩]) S5 { V5 with s:=.slice a6 (bO (dM L')).length c6 } vo5 from by rw [hw7];exact A6.cell 21 (.slice a6 (bO (dM L')).length c6) { X with lives:=L',reqs:=R',ring:=bO (dM L') } { V5 with s:=.slice a6 (bO (dM L')).length c6 } rfl rfl rfl rfl rfl rfl { A6.g.ro with sp:=dm HA5.out.g R6 (by simp) })
      have he7:w7.heap[be]?=some (.cells #[.int .i64 6,.int .i64 ky,.int .i64 sl,.int .i64 gn,.bool gd,.int .i64 rq,.int .i64 bk,.int .i64 wt] 72 (0,0)):=by rw [hw7];exact (I2 _ _ _ _ hepz).trans ((bw6.block be le5).trans HE5.out)
      have e6:w7.cell? ⟨be,6,none⟩=some (.int .i64 bk):=ae he7 6;clear hw7 A6 bw6 hb6 he7 x21 xf e0 e5;go_wp2_with fail;refine (kg HA7.out.g bk HBk.out HX.out.tb (by rw [Ic,List.length_singleton];omega)).mono ?_;rintro e w8 hc8;obtain ⟨S8,V8,vo8,rfl,A8,_,_,_⟩:=HA7.out.call hc8;have HA8:=Hu A8;clear A8 hc8;go_wp2_with fail;refine Ix (v:=.tuple #[]) (by simp [results,Tryz.results33,go_sem]) rfl ?_;rw [HAW.out];unfold jF;simp only;rw [if_neg (by simp),if_neg (by rw [← HSt.out];exact HS1.out)];simp only;rw [List.append_cons];exact HA8.out.fin trivial
    ·exact Q72
end
end Go.Proofs.YtfliffgmeobclaaGreat
