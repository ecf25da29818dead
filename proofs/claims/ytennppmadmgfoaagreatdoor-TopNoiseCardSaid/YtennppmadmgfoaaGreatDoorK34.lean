/- Texts of the row's proof. Conditions: none. -/
import Derived.Test.YtennppmadmgfoaaGreatDoorK33
namespace Go.Proofs.YtennppmadmgfoaaGreatDoor
open Proofs.Tryz
set_option maxRecDepth 100000
set_option maxHeartbeats 8000000
section
open Go.RowKit
theorem name_c {P:Program} {F:Nat} {args:Array Value} {Q:Ending->World->Prop} (w:World) (h:∀ w',w'=w->Calls P F args w' Q):Calls P F args w Q:=h w rfl
theorem ul (x:Sl) (w:World):Calls prog 62 #[Sl.agg x] w fun e w'=>e=.returned (.bool (fv x))/\Below w.heap.size w w':=by
 obtain ⟨z,E,K,I⟩:=x;unfold fv Sl.agg
 cases E with
 | true=>
  go_in;go_wp2
  all_goals exact Zf
 | false=>
  by_cases h:z<1048576
  ·have HD:=KL h;go_in;exact Q135
  ·have J:decide (z<1048576)=false:=by simpa using h
   have HD:=KL h;clear h;go_in;exact Q131
theorem kS:∀ args w,(callFunc 62 args).run prog w=.ok (.enter 62 args) w:=enters_of func62 (by kernel_rfl) rfl
def kb (F:List Fl) (s:Int):Nat:=(F.takeWhile fun f=>decide (f.slot<s)).length
def mD (F:List Fl) (f:Fl):List Fl:=F.take (kb F f.slot)++f :: F.drop (kb F f.slot)
theorem xW (F:List Fl) (s:Int):kb F s<=F.length:=(List.takeWhile_sublist _).length_le
theorem mF (a:Fl) (F:List Fl) (s:Int):kb (a :: F) s=if a.slot<s then kb F s+1 else 0:=by
 unfold kb;rw [List.takeWhile_cons];by_cases h:a.slot<s<;>simp [h]
theorem xV {s:Int}:∀ {F:List Fl} {j:Nat},j<kb F s->(F.getD j Fl.zero).slot<s
 | [],j,h=>by simp [kb] at h
 | a :: F,j,h=>by
  rw [mF] at h;by_cases ha:a.slot<s
  ·rw [if_pos ha] at h
   cases j with
   | zero=>simpa using ha
   | succ j=>have:=xV (F:=F) (s:=s) (j:=j) (by omega);simpa using this
  ·rw [if_neg ha] at h;omega
theorem xU {s:Int}:∀ {F:List Fl},kb F s<F.length->¬ (F.getD (kb F s) Fl.zero).slot<s
 | [],h=>by simp at h
 | a :: F,h=>by
  rw [mF] at h ⊢;by_cases ha:a.slot<s
  ·rw [if_pos ha] at h ⊢;have:=xU (F:=F) (s:=s) (by simp at h;omega);simpa using this
  ·rw [if_neg ha];simpa using ha
theorem xS (F:List Fl) (f:Fl):((mD F f).map Fl.cells).flatten=(eB (F.map Fl.cells) (kb F f.slot) (Fl.cells f)).flatten:=by
 unfold mD eB;simp
theorem xT (F:List Fl) (f:Fl):(mD F f).length=F.length+1:=by
 unfold mD;have:=xW F f.slot;simp;omega
def qL (X:Wd) (key:Nat) (s:Nat) (b:Int):Wd:=
 { X with tab:=X.tab.set s ⟨(X.tab.getD s Sl.zero).gen,true,key,b⟩,lists:=jP X.now X.lists s X.cf.connect,flows:=mD X.flows ⟨s,(X.tab.getD s Sl.zero).gen,key,b,false,0,X.now+X.cf.connect⟩,tok:=min (X.tok+X.cf.bn) (X.cf.bb*X.cf.bd) }
def gz (X:Wd) (key:Nat):Wd×List Out:=
 if aU fv X.tab<0 then (X,[⟨2,0,0,0,0,9,0⟩])
 else if (dG X key (-1)).2≠0 then (X,[⟨2,0,0,0,0,11,0⟩])
 else (qL X key (aU fv X.tab).toNat (dG X key (-1)).1,[⟨1,aU fv X.tab,(X.tab.getD (aU fv X.tab).toNat Sl.zero).gen,(dG X key (-1)).1,0,0,0⟩])
theorem zu {B p:Nat} {w:World} {X:Wd} {O:List Out} {S:List Nat} {V:Vs} {vo:Value} (h:G B p w X O S V vo) (hm:GwMay X) (key:Nat) (hk:key<4294967296) (hO:O.length<=800000) :
  Calls prog 36 #[.pointer (some ⟨p,0,none⟩),.int .i64 (key:Int)] w (GTo B p w S (gz X key).1 (O++(gz X key).2) (fun _=>True) (.tuple #[])):=by
 have A0:=GA.start h
 have x17:=A0.c 17 (v:=V.t) rfl
 obtain ⟨at_,ct,et,_⟩:=ap A0.g.gr.1.ta.1
 rw [et] at x17
 have HTb:=KL A0.g.gr.1.ta.1
 rw [et] at HTb
 have HX:=KL hm
 have HA:=KL A0
 have hp:=h.plt
 have h40:=hm.tb.2.1
 obtain ⟨an,han⟩:∃ an,an=X.tab.any fv:=⟨_,rfl⟩
 have HAn:=KL han
 clear h hm A0 et
 have hcs:=bM fv X.tab Sl.zero
 cases an with
 | false=>
  have hi:aU fv X.tab<0:=(iE fv X.tab).2.1 han.symm;have HI:=KL hi;clear han hcs hi;go_in;go_wp2_with (go_at_call 61;refine (yy _ #[] kS fv _ X.tab _ HTb.out (by omega) (fun x _ w' _=>ul x w')).mono ?_;rw [<- HAn.out];rintro e w1 ⟨rfl,hb1⟩);refine (dw (HA.out.below hb1).g ⟨2,0,0,0,0,9,0⟩ (by omega)).mono ?_;rintro e w2 hc2;obtain ⟨S2,V2,vo2,rfl,A2,_,_,_⟩:=(HA.out.below hb1).call hc2;have HA2:=KL A2;clear A2 hc2;go_wp2_with fail;refine LN (v:=.tuple #[]) (by simp [results,results36,go_sem]) rfl ?_;unfold gz;rw [if_pos HI.out];exact HA2.out.fin trivial
 | true=>
  have hi:=(iE fv X.tab).1.1 han.symm;obtain ⟨s,hs,es,_,_⟩:=hcs.resolve_left (fun e=>by have:=e.1;omega);have HI:=KL es;obtain ⟨pb,pc,hpw⟩:∃ pb pc,dG X key (-1)=(pb,pc):=⟨_,_,rfl⟩;have HPk:=KL (show vV X key (-1) pb pc from by have:=HX.out.pick key (but:=-1) (Or.inl rfl);rw [hpw] at this;exact this);have HPw:=KL hpw;clear han hcs hi es hpw;go_in;go_wp2_with (go_at_call 61;refine (yy _ #[] kS fv _ X.tab _ HTb.out (by omega) (fun x _ w' _=>ul x w')).mono ?_;rw [<- HAn.out];rintro e w1 ⟨rfl,hb1⟩);refine (rf (HA.out.below hb1).g.gr key (-1) hk HX.out.ring (HX.out.load (by omega)) (by have:=HX.out.len;omega) _ _ HPk.out).mono ?_;rintro e w2 ⟨rfl,hb2⟩;have HA2:=KL ((HA.out.below hb1).below hb2);have x17:=HA2.out.c 17 (v:=V.t) rfl;obtain ⟨at_,ct,et,_⟩:=ap HA2.out.g.gr.1.ta.1;rw [et] at x17;have HTb:=KL HA2.out.g.gr.1.ta.1;rw [et] at HTb;have hp2:=HA2.out.plt;clear hb1 hb2 et;by_cases hpc:pc=0
  ·subst hpc;have hpb:=Bd HX.out (key:=key) (but:=-1) (Or.inl rfl) (by rw [HPw.out]);rw [HPw.out] at hpb;obtain ⟨pb0,pb1⟩:0<=pb/\pb<=11:=hpb;obtain ⟨gn,hgn⟩:∃ gn,gn=(X.tab.getD s Sl.zero).gen:=⟨_,rfl⟩;obtain ⟨Y,hY⟩:∃ Y,Y=X.tab.set s ⟨gn,true,(key:Int),pb⟩:=⟨_,rfl⟩;have HGn:=KL hgn;have HY:=KL hY;clear hgn hY;go_wp2_with fail;refine (xt _ X.tab s (key:Int) pb _ HTb.out HX.out.tb (by omega) (by omega) pb0 pb1 hs HI.out).mono ?_;rw [<- HGn.out,<- HY.out];rintro e w3 ⟨v3,rfl,R3,hb3⟩;obtain ⟨a3,c3,rfl,_⟩:=ap R3.1;have HA3:=KL (HA2.out.below hb3);have HR3:=KL (dv HA2.out.g R3 (KY _));have hp3:=HA3.out.plt;have hp3a:p<w3.heap.size+1:=by omega
   have hp3b:p<w3.heap.size+1+1:=by omega
   have hp3c:¬ w3.heap.size=p:=by omega
   have hp3d:¬ w3.heap.size+1=p:=by omega
   have hp3e:¬ w3.heap.size+1+1=p:=by omega
   have x17:=HA3.out.c 17 (v:=V.t) rfl;have x7:=HA3.out.c 7 (v:=.int .i64 X.cf.connect) rfl;have xf:∀ n,w3.frozen? ⟨p,n,none⟩=false:=fun n=>HA3.out.free n;clear R3 hb3 x17;have x17:=ah (KM w3.heap.size w3) (HA3.out.c 17 (v:=V.t) rfl) hp3;go_wp2_with fail;refine name_c _ (fun w4 hw4=>?_);obtain ⟨bh,hbh⟩:∃ bh,bh=w3.heap.size+1:=⟨_,rfl⟩;obtain ⟨bf,hbf⟩:∃ bf,bf=w3.heap.size+1+1:=⟨_,rfl⟩;have HAc:=KL (show GA B p w S (w3.setCell ⟨p,17,none⟩ (.slice a3 Y.length c3)) { X with tab:=Y } O S { V with t:=.slice a3 Y.length c3 } vo from HA3.out.cell 17 (.slice a3 Y.length c3) { X with tab:=Y } { V with t:=.slice a3 Y.length c3 } rfl rfl rfl rfl rfl rfl { HA3.out.g.ro with ta:=HR3.out })
   have b4:Below (w3.setCell ⟨p,17,none⟩ (.slice a3 Y.length c3)).heap.size (w3.setCell ⟨p,17,none⟩ (.slice a3 Y.length c3)) w4:=by rw [hw4];exact (((KM _ _).alloc (KY _) _).alloc (by simp) _).alloc (by simp;omega) _
   have z4:w4.heap.size=w3.heap.size+1+1+1:=by rw [hw4];simp
   have hf4:w4.heap[bf]?=some (.cells #[.int .i64 (s:Int),.int .i64 gn,.int .i64 (key:Int),.int .i64 pb,.bool false,.int .i64 0,.int .i64 0] 170 (0,0)):=by rw [hw4];exact aB _ (by rw [hbf];simp)
   have hh4:w4.heap[bh]?=some (.cells #[.int .i64 (s:Int),.int .i64 gn] 111 (0,0)):=by rw [hw4];exact (heap_alloc_old _ _ (by rw [hbh];simp)).trans (aB _ (by rw [hbh];simp))
   have HA4:=KL (HAc.out.more b4 bf (by rw [hbf];simp;omega) (by omega));have hno:=HAc.out.no (b:=bf) (by rw [hbf];simp;omega);have hnh:=HAc.out.no (b:=bh) (by rw [hbh];simp);have HNo:=KL hno
   have hbhS:bh∉bf :: S:=by intro hx;rcases List.mem_cons.1 hx with e|e;omega;exact hnh.2.2.2.1 e
   have HbS:=KL hbhS;rw [<- hbf,<- hbh];have c0:w4.cell? ⟨bf,0,none⟩=some (.int .i64 (s:Int)):=ae hf4 0;have c6:w4.cell? ⟨bf,0+6,none⟩=some (.int .i64 0):=ae hf4 6;have cf6:w4.frozen? ⟨bf,0+6,none⟩=false:=az hf4 6;have hcn:=HX.out.cf.1.1;have hn1:=HX.out.n1
   have htm:dN ⟨X.now+X.cf.connect,(s:Int)⟩ X.now:=by unfold dN;simp only;omega
   have HTm:=KL htm;have lbf:bf<w4.heap.size:=by omega
   have lbh:bh<w4.heap.size:=by omega
   have HF4:=KL hf4;have HH4:=KL hh4;clear hw4 hbf hbh b4 z4 hf4 hh4 hno hnh hbhS hcn hn1 htm x17 x7 xf hp3a hp3b hp3c hp3d hp3e HAc;refine (mW HA4.out.g bf 0 (s:Int) X.cf.connect X.flows _ HA4.out.g.sp lbf HNo.out.2.2.2.2 c0 0 c6 cf6 (fun w' X' V' gG ef ev eh _=>by have hl:=sx gG bf (0+6) (.int .i64 (X.now+X.cf.connect)) Lw HNo.out.2.2.2.2 (by rw [ev];exact HNo.out.1) (by rw [eh];exact HNo.out.2.1) HNo.out.2.2.1;have e:({ X' with flows:=X.flows }:Wd)=X':=(by obtain ⟨x0,x1,x2,x3,x4,x5,x6,x7,x8,x9,x10⟩:=X';simp only at ef;rw [ef]);rw [e];exact hl) HX.out.wh HX.out.wn HTm.out).mono ?_;rintro e w5 ⟨V5,rfl,G5,hK5,hF5,hblk⟩;have HA5:=KL (HA4.out.same G5 hF5);have hf5:w5.heap[bf]?=some (.cells #[.int .i64 (s:Int),.int .i64 gn,.int .i64 (key:Int),.int .i64 pb,.bool false,.int .i64 0,.int .i64 (X.now+X.cf.connect)] 170 (0,0)):=hblk.trans (aR (j:=6) HF4.out (.int .i64 (X.now+X.cf.connect)));have hh5:=(hF5.block bh lbh HbS.out).trans HH4.out;have HF5:=KL hf5;have HH5:=KL hh5
   have HN2:Hid (V5.f.ownBlock≠some bf):=by rw [hK5.1];exact HNo.out.1
   clear G5 hK5 hF5 hblk HF4 HH4 hf5 hh5 HA4 c0 c6 cf6;have x18:=HA5.out.c 18 (v:=V5.f) rfl;obtain ⟨af,cfl,ev,_⟩:=ap HA5.out.g.gr.2.1
   have hn:¬ X.flows.length=0->∃ g,af=some ⟨g,0,none⟩/\g<w5.heap.size/\∀ k,k<X.flows.length->w5.cell? ⟨g,k*7,none⟩=some (.int .i64 (X.flows.getD k Fl.zero).slot):=fun hne=>by
    have hne':X.flows≠[]:=fun e=>hne (by rw [e];rfl);obtain ⟨g,c,e⟩:=HA5.out.shape hne';rw [ev] at e;injection e with e _ _;refine ⟨g,e,?_,fun k hk=>?_⟩
    ·exact (HA5.out.flow (i:=0) (by rw [ev,e]) (show 0<X.flows.length by omega) rfl).2.1
    ·exact (HA5.out.flow (by rw [ev,e]) hk rfl).2.2.2.2.2 0 (by omega)
   rw [ev] at x18;have HN:=KL hn;have HEv:=KL ev;have h0:w5.cell? ⟨bh,0,none⟩=some (.int .i64 (s:Int)):=ae HH5.out 0;have hp5:=HA5.out.plt;have lh5:=lt_of_block HH5.out;have lf5:=lt_of_block HF5.out;have hlen:=HX.out.len;obtain ⟨iA,hiA⟩:∃ iA,iA=kb X.flows (s:Int):=⟨_,rfl⟩
   have hiL:iA<=X.flows.length:=by rw [hiA];exact xW _ _
   have HIl:Hid (∀ j,j<iA->(X.flows.getD j Fl.zero).slot<(s:Int)):=fun j hj=>xV (by rw [<- hiA];exact hj)
   have HIn:Hid (iA<X.flows.length->¬ (X.flows.getD iA Fl.zero).slot<(s:Int)):=fun hj=>by have:=xU (F:=X.flows) (s:=(s:Int)) (by rw [<- hiA];exact hj);rw [hiA];exact this
   have HIa:=KL hiA;clear hn ev hiA;go_wp2_with fail;go_loopw [10] (fun i wr=>∃ k:Nat,k<=iA/\i=.int .i64 k/\Below w5.heap.size w5 wr) (fun i _=>iA - (intOf i).toNat)
   case atStart=>exact ⟨0,La _,rfl,KM _ _⟩
   case round=>
    obtain ⟨k,hk,rfl,hbr⟩:=hrel;have hzr:=hbr.size;have x18:=ah hbr x18 hp5;have h0:=ah hbr h0 lh5;have hpr:p<wr.heap.size:=by omega
    by_cases hkl:k<X.flows.length
    ·have hkl':(k:Int)<(X.flows.length:Int):=by omega
     obtain ⟨g,rfl,hg,hc⟩:=HN.out (by omega);have ck:=ah hbr (hc k hkl) hg;obtain ⟨fs,hfs⟩:∃ fs,fs=(X.flows.getD k Fl.zero).slot:=⟨_,rfl⟩;rw [<- hfs] at ck;have HFs:=KL hfs;have HB:=KL hbr;clear hc hfs hbr;by_cases hki:k<iA
     ·have hlt:fs<(s:Int):=by have:=HIl.out k hki;rw [<- HFs.out] at this;exact this
      have hki':(k:Int)<(iA:Int):=by omega
      go_wp2_with fail;refine Zr (fun w':World=>w'.cell? ⟨p,18,none⟩=some (.slice (some ⟨g,0,none⟩) X.flows.length cfl)/\w'.cell? ⟨g,k*7,none⟩=some (.int .i64 fs)/\w'.cell? ⟨bh,0,none⟩=some (.int .i64 (s:Int))) (fun hHeld=>?_);refine eD 0 ?_;refine eD 8 ?_;refine eY 16 ?_;refine dl 20 ?_;refine Zt 22 ?_;refine Zd ?_;go_wp2;go_roundw
      case rel=>exact ⟨k+1,by omega,by go_num,KN HB.out⟩
      case measure=>simp [intOf];omega
     ·obtain rfl:k=iA:=by omega
      have hlt:¬ fs<(s:Int):=by have:=HIn.out hkl;rw [<- HFs.out] at this;omega
      go_wp2_with fail;refine Zr (fun w':World=>w'.cell? ⟨p,18,none⟩=some (.slice (some ⟨g,0,none⟩) X.flows.length cfl)/\w'.cell? ⟨g,k*7,none⟩=some (.int .i64 fs)/\w'.cell? ⟨bh,0,none⟩=some (.int .i64 (s:Int))) (fun hHeld=>?_);refine eD 0 ?_;refine eD 8 ?_;refine eY 16 ?_;refine dl 20 ?_;refine Zt 22 ?_;refine Zd ?_;go_wp2_with fail;refine bA _ (fun wq hwq=>?_)
      have bq:Below w5.heap.size w5 wq:=by rw [hwq];exact KN HB.out
      have HAq:=KL (HA5.out.below bq)
      have x18:wq.cell? ⟨p,18,none⟩=some (.slice (some ⟨g,0,none⟩) X.flows.length cfl):=by rw [hwq];exact x18
      have hfq:=aj bq HF5.out lf5;have hhq:=aj bq HH5.out lh5;have HFq:=KL hfq;have HHq:=KL hhq;have y0:wq.cell? ⟨bf,0,none⟩=some (.int .i64 (s:Int)):=ae hfq 0;have y1:wq.cell? ⟨bf,1,none⟩=some (.int .i64 gn):=ae hfq 1;have y2:wq.cell? ⟨bf,2,none⟩=some (.int .i64 (key:Int)):=ae hfq 2;have y3:wq.cell? ⟨bf,3,none⟩=some (.int .i64 pb):=ae hfq 3;have y4:wq.cell? ⟨bf,4,none⟩=some (.bool false):=ae hfq 4;have y5:wq.cell? ⟨bf,5,none⟩=some (.int .i64 0):=ae hfq 5;have y6:wq.cell? ⟨bf,6,none⟩=some (.int .i64 (X.now+X.cf.connect)):=ae hfq 6;obtain ⟨fd,hfd⟩:∃ fd,fd=X.now+X.cf.connect:=⟨_,rfl⟩;have HFd:=KL hfd;rw [<- hfd] at y6;have hpq:=HAq.out.plt;have lfq:=lt_of_block hfq;have lhq:=lt_of_block hhq;have xfq:∀ n,wq.frozen? ⟨p,n,none⟩=false:=fun n=>HAq.out.free n;have HOf:=KL (show wq.ownsRow B 170 7 (.slice (some ⟨g,0,none⟩) X.flows.length cfl) (X.flows.map Fl.cells).length (X.flows.map Fl.cells).flatten from by rw [Lh,<- HEv.out];exact HAq.out.g.of);have hpne:¬ wq.heap.size=p:=by omega
      have hBq:B<=wq.heap.size:=by have:=HAq.out.g.pB;omega
      have HN1:Hid ((Value.slice (some ⟨g,0,none⟩) X.flows.length cfl).ownBlock≠some wq.heap.size):=by rw [<- HEv.out];exact (HAq.out.no (KY _)).1
      have hBz:B<=((wq.alloc (.cells #[.int .i64 (s:Int),.int .i64 gn,.int .i64 (key:Int),.int .i64 pb,.bool false,.int .i64 0,.int .i64 fd] 170)).drew).heap.size:=by simp;omega
      have hfl1:∀ u∈(X.flows.map Fl.cells).flatten,u.oneCell'=true:=fun u hu=>by
       exact Q136
      have hfl2:∀ u∈Fl.cells ⟨(s:Int),gn,(key:Int),pb,false,0,fd⟩,u.oneCell'=true:=fun u hu=>by
       exact Q58
      have hiL2:k<=(X.flows.map Fl.cells).length:=by rw [Lh];exact hiL
      have hln2:(X.flows.map Fl.cells).length<=100000:=by rw [Lh];omega
      have HL1:=KL hfl1;have HL2:=KL hfl2;clear hwq hfq hhq hfd hfl1 hfl2 bq h0
      have HBz:Hid (wq.heap.size<=((wq.alloc (.cells #[.int .i64 (s:Int),.int .i64 gn,.int .i64 (key:Int),.int .i64 pb,.bool false,.int .i64 0,.int .i64 fd] 170)).drew).heap.size):=by show _<=_;simp
      have HPq:Hid (((wq.alloc (.cells #[.int .i64 (s:Int),.int .i64 gn,.int .i64 (key:Int),.int .i64 pb,.bool false,.int .i64 0,.int .i64 fd] 170)).drew).heap[p]?=wq.heap[p]?):=heap_alloc_old _ _ hpq;have HFq2:Hid (((wq.alloc (.cells #[.int .i64 (s:Int),.int .i64 gn,.int .i64 (key:Int),.int .i64 pb,.bool false,.int .i64 0,.int .i64 fd] 170)).drew).heap[bf]?=wq.heap[bf]?):=heap_alloc_old _ _ lfq
      have HPn:Hid (some p≠(Value.slice (some ⟨g,0,none⟩) X.flows.length cfl).ownBlock):=fun e=>by rw [<- HEv.out] at e;exact (HAq.out.g.sf p e.symm).2 rfl
      have HFn:Hid (some bf≠(Value.slice (some ⟨g,0,none⟩) X.flows.length cfl).ownBlock):=fun e=>by rw [<- HEv.out] at e;have hn2:=HN2.out;exact hn2 e.symm
      have hbfp:bf≠p:=HNo.out.2.2.2.2;refine Zr (fun w':World=>w'.cell? ⟨bf,0,none⟩=some (.int .i64 (s:Int))/\w'.cell? ⟨bf,1,none⟩=some (.int .i64 gn)/\w'.cell? ⟨bf,2,none⟩=some (.int .i64 (key:Int))/\w'.cell? ⟨bf,3,none⟩=some (.int .i64 pb)/\w'.cell? ⟨bf,4,none⟩=some (.bool false)/\w'.cell? ⟨bf,5,none⟩=some (.int .i64 0)/\w'.cell? ⟨bf,6,none⟩=some (.int .i64 fd)) (fun hHeld=>?_);refine eY 0 ?_;refine Zt 4 ?_;refine dl 6 ?_;refine Z2 5 8 (fun K hK=>?_) (fun K hK=>?_);(focus (go_simp;refine Zk hK fun hHeld=>?_;clear hK K;refine Z1 8 (fun K hK=>?_);go_simp;refine Zk hK fun hHeld=>?_;clear hK K));rotate_left 1;(focus (go_simp;refine Zk hK fun hHeld=>?_;clear hK K;refine Z1 5 (fun K hK=>?_);go_simp;refine Zk hK fun hHeld=>?_;clear hK K));rotate_left 1;(all_goals (refine Z1 9 (fun K hK=>?_);go_simp;(go_at_call 67;refine (FP B _ (X.flows.map Fl.cells) k wq.heap.size (Fl.cells ⟨(s:Int),gn,(key:Int),pb,false,0,fd⟩) _ (bF HOf.out (KN ((KM wq.heap.size wq).alloc (KY _) _))) (iU _) HL1.out rfl HL2.out hiL2 hln2 (cO wq _) HN1.out hBz).mono ?_;rintro e w7 ⟨v7,rfl,hown7,hgr7,hnew7⟩;obtain ⟨a7,c7,rfl,_,_⟩:=aE hown7;have hz7:=hgr7.size;(try simp at hz7);have hb7:=(hgr7.block bf (Nat.lt_of_lt_of_le lfq HBz.out) HFn.out).trans HFq2.out;have y0:=(Lg (w:=wq) (w':=w7) (a:=⟨bf,0,none⟩) hb7).trans y0;have y1:=(Lg (w:=wq) (w':=w7) (a:=⟨bf,1,none⟩) hb7).trans y1;have y2:=(Lg (w:=wq) (w':=w7) (a:=⟨bf,2,none⟩) hb7).trans y2;have y3:=(Lg (w:=wq) (w':=w7) (a:=⟨bf,3,none⟩) hb7).trans y3;have y4:=(Lg (w:=wq) (w':=w7) (a:=⟨bf,4,none⟩) hb7).trans y4;have y5:=(Lg (w:=wq) (w':=w7) (a:=⟨bf,5,none⟩) hb7).trans y5;have y6:=(Lg (w:=wq) (w':=w7) (a:=⟨bf,6,none⟩) hb7).trans y6;have xf7:w7.frozen? ⟨p,18,none⟩=false:=(World.frozen?_of_block (w:=wq) (w':=w7) (a:=⟨p,18,none⟩) ((hgr7.block p (Nat.lt_of_lt_of_le hpq HBz.out) HPn.out).trans HPq.out)).trans (xfq 18);have x18:w7.cell? ⟨p,18,none⟩=some (.slice (some ⟨g,0,none⟩) X.flows.length cfl):=(Lg (w:=wq) (w':=w7) (a:=⟨p,18,none⟩) ((hgr7.block p (Nat.lt_of_lt_of_le hpq HBz.out) HPn.out).trans HPq.out)).trans x18;(try dsimp only));(try go_wp2_with fail);refine Zk hK fun hHeld=>?_;clear hK K;refine dl 10 ?_;refine Zt 12 ?_;refine Z1 13 (fun K hK=>?_);go_simp;refine Zk hK fun hHeld=>?_;clear hK K));(all_goals refine Zd ?_)
      all_goals
       refine bA _ (fun w8 hw8=>?_)
       obtain ⟨F',hF'⟩:∃ F',F'=mD X.flows ⟨(s:Int),gn,(key:Int),pb,false,0,fd⟩:=⟨_,rfl⟩
       have hof:=HAq.out.g.of
       rw [HEv.out] at hof
       have bg:Below B wq w7:=cP (KN ((KM wq.heap.size wq).alloc (KY _) _)) hBq hof hgr7
       rw [Lh] at hown7 hnew7
       obtain ⟨S8,g8,fr8,hs8,_⟩:=vW HAq.out.g F' bg (fun b h1 h2=>(hgr7.block b (Nat.lt_of_lt_of_le h1 HBz.out) (fun e=>h2 (by rw [HEv.out];exact e.symm))).trans (heap_alloc_old _ _ h1)) (v':=.slice a7 (X.flows.length+1) c7) (by rw [hF',xT,xS];simp only;rw [<- HIa.out];exact hown7) (fun b hb=>(hnew7 b hb).elim (fun e=>Or.inl (by rw [HEv.out];exact e)) (fun e=>Or.inr (Lz HBz.out e)))
       have hh8:=(fr8.block bh lhq HbS.out).trans HHq.out
       have HA8:=HAq.out.step g8 fr8 hs8
       rw [<- hw8] at HA8
       rw [<- hw8] at hh8
       have HA8:=KL HA8
       have HFi:=KL hF'
       have hp8:=HA8.out.plt
       have x10:=HA8.out.c 10 (v:=.int .i64 X.cf.bn) rfl
       have x11:=HA8.out.c 11 (v:=.int .i64 X.cf.bd) rfl
       have x12:=HA8.out.c 12 (v:=.int .i64 X.cf.bb) rfl
       have x23:=HA8.out.c 23 (v:=.int .i64 X.tok) rfl
       have xf8:∀ n,w8.frozen? ⟨p,n,none⟩=false:=fun n=>HA8.out.free n
       have HBu:=KL HX.out.cf.2.1
       have HT0:Hid (0<=X.tok/\X.tok<=X.cf.bb*X.cf.bd):=⟨HX.out.t0,HX.out.t1⟩
       have lh8:=lt_of_block hh8
       have HH8:=KL hh8
       have nbp:bh≠p:=by rintro rfl;exact HbS.out (Ly _ HA2.out.g.sp)
       clear hw8 hF' hof bg g8 fr8 hs8 hown7 hgr7 hnew7 hh8 y0 y1 y2 y3 y4 y5 y6 x18 xf7 hb7 hz7
       go_wp2_with fail
       (refine Zr (fun w':World=>w'.cell? ⟨p,10,none⟩=some (.int .i64 X.cf.bn)/\w'.cell? ⟨p,11,none⟩=some (.int .i64 X.cf.bd)/\w'.cell? ⟨p,12,none⟩=some (.int .i64 X.cf.bb)) (fun hHeld=>?_);refine eD 0 ?_;refine dl 8 ?_;refine Zt 10 ?_;refine Z1 11 (fun K hK=>?_);go_simp;refine Zk hK fun hHeld=>?_;clear hK K;refine Z1 12 (fun K hK=>?_);go_simp;(go_at_call 49;refine (jH _ _ _ _ _ HBu.out HT0.out).mono ?_;rintro e w9 ⟨rfl,hb9⟩;have bw9:Below w8.heap.size w8 w9:=KS (KN (KM w8.heap.size w8)) (hb9.mono (by simp));have x23:=ah bw9 x23 hp8;have xf9:∀ n,w9.frozen? ⟨p,n,none⟩=false:=(fun n=>(bw9.frozen (p:=⟨p,n,none⟩) hp8).trans (xf8 n));(try dsimp only));(try go_wp2_with fail);refine Zk hK fun hHeld=>?_;clear hK K;refine eY 13 ?_;refine dl 17 ?_;refine Z1 19 (fun K hK=>?_);go_simp;refine Zk hK fun hHeld=>?_;clear hK K;refine Zd ?_)
       refine bA _ (fun w10 hw10=>?_)
       have A9:=HA8.out.below bw9
       have HA10:=KL (show GA B p w S w10 { X with tab:=Y,flows:=F',lists:=jP X.now X.lists (s:Int) X.cf.connect,tok:=min (X.tok+X.cf.bn) (X.cf.bb*X.cf.bd) } O S8 { V5 with f:=.slice a7 (X.flows.length+1) c7 } vo from by rw [hw10];exact A9.cell 23 (.int .i64 (min (X.tok+X.cf.bn) (X.cf.bb*X.cf.bd))) { X with tab:=Y,flows:=F',lists:=jP X.now X.lists (s:Int) X.cf.connect,tok:=min (X.tok+X.cf.bn) (X.cf.bb*X.cf.bd) } { V5 with f:=.slice a7 (X.flows.length+1) c7 } rfl rfl rfl rfl rfl rfl { A9.g.ro with })
       have hh10:w10.heap[bh]?=some (.cells #[.int .i64 (s:Int),.int .i64 gn] 111 (0,0)):=by rw [hw10];exact (KV _ _ _ _ nbp).trans ((bw9.block bh lh8).trans HH8.out)
       have h0:w10.cell? ⟨bh,0,none⟩=some (.int .i64 (s:Int)):=ae hh10 0
       have h1:w10.cell? ⟨bh,1,none⟩=some (.int .i64 gn):=ae hh10 1
       have hp10:=HA10.out.plt
       clear hw10 A9 bw9 hb9 x23 xf9 hh10 x10 x11 x12 xf8
       go_wp2_with fail
       refine (dw HA10.out.g ⟨1,(s:Int),gn,pb,0,0,0⟩ (by omega)).mono ?_
       rintro e w11 hc11
       obtain ⟨S11,V11,vo11,rfl,A11,_,_,_⟩:=HA10.out.call hc11
       have HA11:=KL A11
       clear A11 hc11
       go_wp2_with fail
       refine LN (v:=.tuple #[]) (by simp [results,results36,go_sem]) rfl ?_
       unfold gz
       rw [if_neg (by rw [HI.out];omega),if_neg (by rw [HPw.out];simp)]
       unfold qL
       simp only
       rw [HI.out,Lm,HPw.out,<- HGn.out,<- HY.out,<- HFd.out,<- HFi.out]
       exact HA11.out.fin trivial
    ·obtain rfl:k=iA:=by omega
     have hkl':¬ (k:Int)<(X.flows.length:Int):=by omega
     have HB:=KL hbr;clear hbr;go_wp2_with fail;refine Zr (fun w':World=>w'.cell? ⟨p,18,none⟩=some (.slice af X.flows.length cfl)) (fun hHeld=>?_);refine eD 0 ?_;refine eD 8 ?_;refine eY 16 ?_;refine dl 20 ?_;refine Zt 22 ?_;refine Zd ?_;go_wp2_with fail;refine bA _ (fun wq hwq=>?_)
     have bq:Below w5.heap.size w5 wq:=by rw [hwq];exact KN HB.out
     have HAq:=KL (HA5.out.below bq)
     have x18:wq.cell? ⟨p,18,none⟩=some (.slice af X.flows.length cfl):=by rw [hwq];exact x18
     have hfq:=aj bq HF5.out lf5;have hhq:=aj bq HH5.out lh5;have HFq:=KL hfq;have HHq:=KL hhq;have y0:wq.cell? ⟨bf,0,none⟩=some (.int .i64 (s:Int)):=ae hfq 0;have y1:wq.cell? ⟨bf,1,none⟩=some (.int .i64 gn):=ae hfq 1;have y2:wq.cell? ⟨bf,2,none⟩=some (.int .i64 (key:Int)):=ae hfq 2;have y3:wq.cell? ⟨bf,3,none⟩=some (.int .i64 pb):=ae hfq 3;have y4:wq.cell? ⟨bf,4,none⟩=some (.bool false):=ae hfq 4;have y5:wq.cell? ⟨bf,5,none⟩=some (.int .i64 0):=ae hfq 5;have y6:wq.cell? ⟨bf,6,none⟩=some (.int .i64 (X.now+X.cf.connect)):=ae hfq 6;obtain ⟨fd,hfd⟩:∃ fd,fd=X.now+X.cf.connect:=⟨_,rfl⟩;have HFd:=KL hfd;rw [<- hfd] at y6;have hpq:=HAq.out.plt;have lfq:=lt_of_block hfq;have lhq:=lt_of_block hhq;have xfq:∀ n,wq.frozen? ⟨p,n,none⟩=false:=fun n=>HAq.out.free n;have HOf:=KL (show wq.ownsRow B 170 7 (.slice af X.flows.length cfl) (X.flows.map Fl.cells).length (X.flows.map Fl.cells).flatten from by rw [Lh,<- HEv.out];exact HAq.out.g.of);have hpne:¬ wq.heap.size=p:=by omega
     have hBq:B<=wq.heap.size:=by have:=HAq.out.g.pB;omega
     have HN1:Hid ((Value.slice af X.flows.length cfl).ownBlock≠some wq.heap.size):=by rw [<- HEv.out];exact (HAq.out.no (KY _)).1
     have hBz:B<=((wq.alloc (.cells #[.int .i64 (s:Int),.int .i64 gn,.int .i64 (key:Int),.int .i64 pb,.bool false,.int .i64 0,.int .i64 fd] 170)).drew).heap.size:=by simp;omega
     have hfl1:∀ u∈(X.flows.map Fl.cells).flatten,u.oneCell'=true:=fun u hu=>by
      exact Q136
     have hfl2:∀ u∈Fl.cells ⟨(s:Int),gn,(key:Int),pb,false,0,fd⟩,u.oneCell'=true:=fun u hu=>by
      exact Q58
     have hiL2:k<=(X.flows.map Fl.cells).length:=by rw [Lh];exact hiL
     have hln2:(X.flows.map Fl.cells).length<=100000:=by rw [Lh];omega
     have HL1:=KL hfl1;have HL2:=KL hfl2;clear hwq hfq hhq hfd hfl1 hfl2 bq h0
     have HBz:Hid (wq.heap.size<=((wq.alloc (.cells #[.int .i64 (s:Int),.int .i64 gn,.int .i64 (key:Int),.int .i64 pb,.bool false,.int .i64 0,.int .i64 fd] 170)).drew).heap.size):=by show _<=_;simp
     have HPq:Hid (((wq.alloc (.cells #[.int .i64 (s:Int),.int .i64 gn,.int .i64 (key:Int),.int .i64 pb,.bool false,.int .i64 0,.int .i64 fd] 170)).drew).heap[p]?=wq.heap[p]?):=heap_alloc_old _ _ hpq;have HFq2:Hid (((wq.alloc (.cells #[.int .i64 (s:Int),.int .i64 gn,.int .i64 (key:Int),.int .i64 pb,.bool false,.int .i64 0,.int .i64 fd] 170)).drew).heap[bf]?=wq.heap[bf]?):=heap_alloc_old _ _ lfq
     have HPn:Hid (some p≠(Value.slice af X.flows.length cfl).ownBlock):=fun e=>by rw [<- HEv.out] at e;exact (HAq.out.g.sf p e.symm).2 rfl
     have HFn:Hid (some bf≠(Value.slice af X.flows.length cfl).ownBlock):=fun e=>by rw [<- HEv.out] at e;have hn2:=HN2.out;exact hn2 e.symm
     have hbfp:bf≠p:=HNo.out.2.2.2.2;refine Zr (fun w':World=>w'.cell? ⟨bf,0,none⟩=some (.int .i64 (s:Int))/\w'.cell? ⟨bf,1,none⟩=some (.int .i64 gn)/\w'.cell? ⟨bf,2,none⟩=some (.int .i64 (key:Int))/\w'.cell? ⟨bf,3,none⟩=some (.int .i64 pb)/\w'.cell? ⟨bf,4,none⟩=some (.bool false)/\w'.cell? ⟨bf,5,none⟩=some (.int .i64 0)/\w'.cell? ⟨bf,6,none⟩=some (.int .i64 fd)) (fun hHeld=>?_);refine eY 0 ?_;refine Zt 4 ?_;refine dl 6 ?_;refine Z2 5 8 (fun K hK=>?_) (fun K hK=>?_);(focus (go_simp;refine Zk hK fun hHeld=>?_;clear hK K;refine Z1 8 (fun K hK=>?_);go_simp;refine Zk hK fun hHeld=>?_;clear hK K));rotate_left 1;(focus (go_simp;refine Zk hK fun hHeld=>?_;clear hK K;refine Z1 5 (fun K hK=>?_);go_simp;refine Zk hK fun hHeld=>?_;clear hK K));rotate_left 1;(all_goals (refine Z1 9 (fun K hK=>?_);go_simp;(go_at_call 67;refine (FP B _ (X.flows.map Fl.cells) k wq.heap.size (Fl.cells ⟨(s:Int),gn,(key:Int),pb,false,0,fd⟩) _ (bF HOf.out (KN ((KM wq.heap.size wq).alloc (KY _) _))) (iU _) HL1.out rfl HL2.out hiL2 hln2 (cO wq _) HN1.out hBz).mono ?_;rintro e w7 ⟨v7,rfl,hown7,hgr7,hnew7⟩;obtain ⟨a7,c7,rfl,_,_⟩:=aE hown7;have hz7:=hgr7.size;(try simp at hz7);have hb7:=(hgr7.block bf (Nat.lt_of_lt_of_le lfq HBz.out) HFn.out).trans HFq2.out;have y0:=(Lg (w:=wq) (w':=w7) (a:=⟨bf,0,none⟩) hb7).trans y0;have y1:=(Lg (w:=wq) (w':=w7) (a:=⟨bf,1,none⟩) hb7).trans y1;have y2:=(Lg (w:=wq) (w':=w7) (a:=⟨bf,2,none⟩) hb7).trans y2;have y3:=(Lg (w:=wq) (w':=w7) (a:=⟨bf,3,none⟩) hb7).trans y3;have y4:=(Lg (w:=wq) (w':=w7) (a:=⟨bf,4,none⟩) hb7).trans y4;have y5:=(Lg (w:=wq) (w':=w7) (a:=⟨bf,5,none⟩) hb7).trans y5;have y6:=(Lg (w:=wq) (w':=w7) (a:=⟨bf,6,none⟩) hb7).trans y6;have xf7:w7.frozen? ⟨p,18,none⟩=false:=(World.frozen?_of_block (w:=wq) (w':=w7) (a:=⟨p,18,none⟩) ((hgr7.block p (Nat.lt_of_lt_of_le hpq HBz.out) HPn.out).trans HPq.out)).trans (xfq 18);have x18:w7.cell? ⟨p,18,none⟩=some (.slice af X.flows.length cfl):=(Lg (w:=wq) (w':=w7) (a:=⟨p,18,none⟩) ((hgr7.block p (Nat.lt_of_lt_of_le hpq HBz.out) HPn.out).trans HPq.out)).trans x18;(try dsimp only));(try go_wp2_with fail);refine Zk hK fun hHeld=>?_;clear hK K;refine dl 10 ?_;refine Zt 12 ?_;refine Z1 13 (fun K hK=>?_);go_simp;refine Zk hK fun hHeld=>?_;clear hK K));(all_goals refine Zd ?_)
     all_goals
      refine bA _ (fun w8 hw8=>?_)
      obtain ⟨F',hF'⟩:∃ F',F'=mD X.flows ⟨(s:Int),gn,(key:Int),pb,false,0,fd⟩:=⟨_,rfl⟩
      have hof:=HAq.out.g.of
      rw [HEv.out] at hof
      have bg:Below B wq w7:=cP (KN ((KM wq.heap.size wq).alloc (KY _) _)) hBq hof hgr7
      rw [Lh] at hown7 hnew7
      obtain ⟨S8,g8,fr8,hs8,_⟩:=vW HAq.out.g F' bg (fun b h1 h2=>(hgr7.block b (Nat.lt_of_lt_of_le h1 HBz.out) (fun e=>h2 (by rw [HEv.out];exact e.symm))).trans (heap_alloc_old _ _ h1)) (v':=.slice a7 (X.flows.length+1) c7) (by rw [hF',xT,xS];simp only;rw [<- HIa.out];exact hown7) (fun b hb=>(hnew7 b hb).elim (fun e=>Or.inl (by rw [HEv.out];exact e)) (fun e=>Or.inr (Lz HBz.out e)))
      have hh8:=(fr8.block bh lhq HbS.out).trans HHq.out
      have HA8:=HAq.out.step g8 fr8 hs8
      rw [<- hw8] at HA8
      rw [<- hw8] at hh8
      have HA8:=KL HA8
      have HFi:=KL hF'
      have hp8:=HA8.out.plt
      have x10:=HA8.out.c 10 (v:=.int .i64 X.cf.bn) rfl
      have x11:=HA8.out.c 11 (v:=.int .i64 X.cf.bd) rfl
      have x12:=HA8.out.c 12 (v:=.int .i64 X.cf.bb) rfl
      have x23:=HA8.out.c 23 (v:=.int .i64 X.tok) rfl
      have xf8:∀ n,w8.frozen? ⟨p,n,none⟩=false:=fun n=>HA8.out.free n
      have HBu:=KL HX.out.cf.2.1
      have HT0:Hid (0<=X.tok/\X.tok<=X.cf.bb*X.cf.bd):=⟨HX.out.t0,HX.out.t1⟩
      have lh8:=lt_of_block hh8
      have HH8:=KL hh8
      have nbp:bh≠p:=by rintro rfl;exact HbS.out (Ly _ HA2.out.g.sp)
      clear hw8 hF' hof bg g8 fr8 hs8 hown7 hgr7 hnew7 hh8 y0 y1 y2 y3 y4 y5 y6 x18 xf7 hb7 hz7
      go_wp2_with fail
      (refine Zr (fun w':World=>w'.cell? ⟨p,10,none⟩=some (.int .i64 X.cf.bn)/\w'.cell? ⟨p,11,none⟩=some (.int .i64 X.cf.bd)/\w'.cell? ⟨p,12,none⟩=some (.int .i64 X.cf.bb)) (fun hHeld=>?_);refine eD 0 ?_;refine dl 8 ?_;refine Zt 10 ?_;refine Z1 11 (fun K hK=>?_);go_simp;refine Zk hK fun hHeld=>?_;clear hK K;refine Z1 12 (fun K hK=>?_);go_simp;(go_at_call 49;refine (jH _ _ _ _ _ HBu.out HT0.out).mono ?_;rintro e w9 ⟨rfl,hb9⟩;have bw9:Below w8.heap.size w8 w9:=KS (KN (KM w8.heap.size w8)) (hb9.mono (by simp));have x23:=ah bw9 x23 hp8;have xf9:∀ n,w9.frozen? ⟨p,n,none⟩=false:=(fun n=>(bw9.frozen (p:=⟨p,n,none⟩) hp8).trans (xf8 n));(try dsimp only));(try go_wp2_with fail);refine Zk hK fun hHeld=>?_;clear hK K;refine eY 13 ?_;refine dl 17 ?_;refine Z1 19 (fun K hK=>?_);go_simp;refine Zk hK fun hHeld=>?_;clear hK K;refine Zd ?_)
      refine bA _ (fun w10 hw10=>?_)
      have A9:=HA8.out.below bw9
      have HA10:=KL (show GA B p w S w10 { X with tab:=Y,flows:=F',lists:=jP X.now X.lists (s:Int) X.cf.connect,tok:=min (X.tok+X.cf.bn) (X.cf.bb*X.cf.bd) } O S8 { V5 with f:=.slice a7 (X.flows.length+1) c7 } vo from by rw [hw10];exact A9.cell 23 (.int .i64 (min (X.tok+X.cf.bn) (X.cf.bb*X.cf.bd))) { X with tab:=Y,flows:=F',lists:=jP X.now X.lists (s:Int) X.cf.connect,tok:=min (X.tok+X.cf.bn) (X.cf.bb*X.cf.bd) } { V5 with f:=.slice a7 (X.flows.length+1) c7 } rfl rfl rfl rfl rfl rfl { A9.g.ro with })
      have hh10:w10.heap[bh]?=some (.cells #[.int .i64 (s:Int),.int .i64 gn] 111 (0,0)):=by rw [hw10];exact (KV _ _ _ _ nbp).trans ((bw9.block bh lh8).trans HH8.out)
      have h0:w10.cell? ⟨bh,0,none⟩=some (.int .i64 (s:Int)):=ae hh10 0
      have h1:w10.cell? ⟨bh,1,none⟩=some (.int .i64 gn):=ae hh10 1
      have hp10:=HA10.out.plt
      clear hw10 A9 bw9 hb9 x23 xf9 hh10 x10 x11 x12 xf8
      go_wp2_with fail
      refine (dw HA10.out.g ⟨1,(s:Int),gn,pb,0,0,0⟩ (by omega)).mono ?_
      rintro e w11 hc11
      obtain ⟨S11,V11,vo11,rfl,A11,_,_,_⟩:=HA10.out.call hc11
      have HA11:=KL A11
      clear A11 hc11
      go_wp2_with fail
      refine LN (v:=.tuple #[]) (by simp [results,results36,go_sem]) rfl ?_
      unfold gz
      rw [if_neg (by rw [HI.out];omega),if_neg (by rw [HPw.out];simp)]
      unfold qL
      simp only
      rw [HI.out,Lm,HPw.out,<- HGn.out,<- HY.out,<- HFd.out,<- HFi.out]
      exact HA11.out.fin trivial
  ·have hne:(pc != 0)=true:=by simpa using hpc
   have HPc:=KL hpc;clear hpc;go_wp2_with fail;refine (dw HA2.out.g ⟨2,0,0,0,0,11,0⟩ (by omega)).mono ?_;rintro e w3 hc3;obtain ⟨S3,V3,vo3,rfl,A3,_,_,_⟩:=HA2.out.call hc3;have HA3:=KL A3;clear A3 hc3;go_wp2_with fail;refine LN (v:=.tuple #[]) (by simp [results,results36,go_sem]) rfl ?_;unfold gz;rw [if_neg (by rw [HI.out];omega),if_pos (by rw [HPw.out];exact HPc.out)];exact HA3.out.fin trivial
theorem Di (a:Fl) (F:List Fl) (f:Fl):mD (a :: F) f=if a.slot<f.slot then a :: mD F f else f :: a :: F:=by
 unfold mD;rw [mF];by_cases h:a.slot<f.slot
 ·rw [if_pos h,if_pos h]
  rfl
 ·rw [if_neg h,if_neg h]
  rfl
theorem tQ (F:List Fl) (f:Fl):(mD F f).Perm (F++[f]):=by
 unfold mD;refine List.perm_middle.trans ?_;rw [Lx];exact (List.perm_append_comm (l₁:=[f]) (l₂:=F))
theorem jv {F:List Fl} {f g:Fl}:g∈mD F f↔g=f\/g∈F:=by
 rw [(tQ F f).mem_iff];simp [or_comm]
theorem Bq {f:Fl}:∀ {F:List Fl},(F.Pairwise fun a b=>a.slot<b.slot)->(∀ g∈F,g.slot≠f.slot)->(mD F f).Pairwise fun a b=>a.slot<b.slot
 | [],_,_=>by simp [mD]
 | a :: F,hs,hn=>by
  rw [List.pairwise_cons] at hs;have z:=hn a (Lw ..);rw [Di];by_cases h:a.slot<f.slot
  ·rw [if_pos h,List.pairwise_cons];refine ⟨fun g hg=>?_,Bq hs.2 (fun g hg=>hn g (Ly _ hg))⟩;rcases jv.1 hg with rfl|hg
   ·exact h
   ·exact hs.1 g hg
  ·exact Q101
theorem Eb {now:Int} {F H:List Fl} (h:F.Perm H):(ez now F).Perm (ez now H):=(h.filter _).map _
theorem Cn {X:Wd} (h:GwMay X) {key s:Nat} (E:key<4294967296) (K:s<X.tab.length) (hf:fv (X.tab.getD s Sl.zero)=true) {b:Int} (hb:i8 X.lives b=2):GwMay (qL X key s b):=by
 have U:=oB h.tb K
 have W:(X.tab.getD s Sl.zero).used=false/\(X.tab.getD s Sl.zero).gen<1048576:=by
  unfold fv at hf;simpa using hf
 have a1:0<=(X.tab.getD s Sl.zero).gen:=by
  unfold dB at U;rw [W.1] at U;simp at U;exact U.1
 have a0:∀ Z∈X.flows,Z.slot≠(s:Int):=by
  intro Z hg Y;have:=(h.fl Z hg).sl;rw [Y,Lm] at this;rw [this] at W;exact absurd W.1 (by simp)
 have a4:=Eh h.bk (Or.inl hb);have a6:=h.cf.1.1;have a7:=h.cf.1.2.2;have a9:=h.t0;have aa:=h.t1
 have a5:0<=X.cf.bn:=by have:=h.cf.2.1;unfold io at this;omega
 generalize hgn:(X.tab.getD s Sl.zero).gen=gn at W a1;unfold qL;rw [hgn];refine { cf:=h.cf,n0:=h.n0,n1:=h.n1,tb:=?_,tl:=?_,bk:=h.bk,hl:=h.hl,ht:=h.ht,ho:=h.ho,t0:=?_,t1:=?_,rg:=h.rg,wn:=h.wn,wl:=?_,so:=Bq h.so a0,fl:=fun I E=>?_,us:=?_,dr:=?_,si:=h.si }
 ·refine qe h.tb _ ?_;unfold dB;simp only [if_true];omega
 ·simp only [Lq];exact h.tl
 ·simp only;omega
 ·simp only;omega
 ·simp only;unfold jP;refine fN ?_;refine List.Perm.trans ?_ (Eb (tQ _ _)).symm;rw [gb,AS (by simp only;omega)];refine List.Perm.append_right _ ?_;refine (h.whp.filter _).trans ?_;rw [ux a0]
 ·rcases jv.1 E with rfl|E
  ·refine ⟨by simp only;omega,by simp only [Lq];omega,?_,by simp only;omega,by simp only;omega,Or.inl hb,by simp only;omega,by simp only;omega⟩;simp only;rw [Lm,cR K,if_pos rfl]
  ·have z:=h.fl I E;have a8:=a0 I E;have g0:=z.s0;refine ⟨z.s0,by simp only [Lq];exact z.s1,?_,z.r0,z.r1,z.st,z.d0,z.d1⟩;simp only;rw [cR K,if_neg (by omega)];exact z.sl
 ·intro q hq J;simp only [Lq] at hq J;rw [cR K] at J;by_cases Y:s=q
  ·exact ⟨_,jv.2 (Or.inl rfl),by simp only;omega⟩
  ·rw [if_neg Y] at J;obtain ⟨I,E,a3⟩:=h.us q hq J;exact ⟨I,jv.2 (Or.inr E),a3⟩
 ·intro x hx h3;obtain ⟨I,E,a2⟩:=h.dr x hx h3;exact ⟨I,jv.2 (Or.inr E),a2⟩
theorem Fa {X:Wd} (h:GwMay X) {key:Nat} (J:key<4294967296):GwMay (gz X key).1:=by
 unfold gz;by_cases h1:aU fv X.tab<0
 ·rw [if_pos h1];exact h
 ·rw [if_neg h1];by_cases h2:(dG X key (-1)).2≠0
  ·rw [if_pos h2];exact h
  ·rw [if_neg h2];obtain ⟨x,U,W,Y⟩:=uT h (but:=-1) (Or.inl rfl) (Decidable.not_not.1 h2);have E:=qM (cU h.bk) U;rw [Y,W] at E;rcases bM fv X.tab Sl.zero with ⟨z,_⟩|⟨Z,I,z,K,_⟩
   ·rw [z] at h1;omega
   ·simp only;rw [z,Lm];exact Cn h J I K E
theorem EN (a:Lf) (L:List Lf) (b:Int):oH (a :: L) b=if a.backend<b then oH L b+1 else 0:=by
 unfold oH;rw [List.findIdx_cons];by_cases h:a.backend<b<;>simp [h]
theorem Dh (a:Lf) (L:List Lf) (y:Lf):eB (a :: L) (oH (a :: L) y.backend) y=if a.backend<y.backend then a :: eB L (oH L y.backend) y else y :: a :: L:=by
 unfold eB;rw [EN];by_cases h:a.backend<y.backend
 ·rw [if_pos h,if_pos h]
  rfl
 ·rw [if_neg h,if_neg h]
  rfl
theorem kM {α:Type} {L:List α} {k:Nat} {y x:α}:x∈eB L k y↔x=y\/x∈L:=by
 unfold eB;have e:L=L.take k++L.drop k:=(Lx k L).symm
 conv=>rhs;rw [e]
 exact Q60
theorem Bp {y:Lf}:∀ {L:List Lf},(L.Pairwise fun a b=>a.backend<b.backend)->(∀ g∈L,g.backend≠y.backend)->(eB L (oH L y.backend) y).Pairwise fun a b=>a.backend<b.backend
 | [],_,_=>by simp [eB]
 | a :: L,hs,hn=>by
  rw [List.pairwise_cons] at hs;have z:=hn a (Lw ..);rw [Dh];by_cases h:a.backend<y.backend
  ·rw [if_pos h,List.pairwise_cons];refine ⟨fun g hg=>?_,Bp hs.2 (fun g hg=>hn g (Ly _ hg))⟩;rcases kM.1 hg with rfl|hg
   ·exact h
   ·exact hs.1 g hg
  ·exact Q101
theorem Fv {X:Wd} (z:GwMay X) {R':List Rq} (U:bJ X.lives R') {y:Lf} (hy:eG y) (I:∀ g∈X.lives,g.backend≠y.backend) (h1:y.state=1) (a1:y.since<=X.now):GwMay { X with lives:=eB X.lives (oH X.lives y.backend) y,reqs:=R' }:=by
 have hs:=cU z.bk
 have a0:dQ (eB X.lives (oH X.lives y.backend) y)=dQ X.lives:=by
  unfold dQ;refine List.map_congr_left fun W _=>?_;rw [xN I];by_cases e:y.backend=(W:Int)
  ·rw [if_pos e]
   cases hl:dJ X.lives (W:Nat) with
   | none=>simp only;rw [if_neg (by omega)]
   | some E=>exact absurd ((eV hl).2.trans e.symm) (I _ (eV hl).1)
  ·rw [if_neg e]
 refine oP z (Kx (fun E h=>?_) (Bp hs I) U.2.1 U.2.2.2.1 U.2.2.2.2) a0 (fun K Z=>?_) (fun E h Y=>?_) (fun E h=>?_)
 ·rcases kM.1 h with rfl|h
  ·exact hy
  ·exact eZ z.bk h
 ·have J:=(z.fl K Z).st;unfold i8 at J ⊢;rw [xN I];by_cases e:y.backend=K.backend
  ·cases hl:dJ X.lives K.backend with
   | none=>rw [hl] at J;simp at J
   | some E=>exact absurd ((eV hl).2.trans e.symm) (I _ (eV hl).1)
  ·rw [if_neg e];exact J
 ·rcases kM.1 h with rfl|h
  ·omega
  ·exact z.dr E h Y
 ·rcases kM.1 h with rfl|h
  ·exact a1
  ·exact z.si E h
def fM (k:Int):Int:=if k=6 then 2 else 1
def jQ (X:Wd) (e:Ev) (L':List Lf) (R':List Rq) (z:Int) (nw:Bool):Wd×List Out:=
 let h:Wd:={ X with lives:=L',reqs:=R' }
 if nw=false\/z≠0\/e.kind≠6 then (h,[⟨8,0,0,0,e.request,z,0⟩])
 else if i8 X.lives e.backend=1 then (h,[⟨8,0,0,0,e.request,z,0⟩,⟨9,0,0,e.backend,e.request,0,0⟩])
 else ((cj { h with ring:=bR (dQ L') } e.backend).1,⟨8,0,0,0,e.request,z,0⟩ :: (cj { h with ring:=bR (dQ L') } e.backend).2)
structure wC (e:Ev):Prop where
 k:e.kind=5\/e.kind=6
 r0:0<=e.request
 r1:e.request<=1048576
 b0:0<=e.backend
 b1:e.backend<=11
theorem tt {B p:Nat} {w:World} {X:Wd} {O:List Out} {S:List Nat} {V:Vs} {vo:Value} (h:G B p w X O S V vo) (hm:GwMay X) (e:Ev) (he:wC e) (hO:O.length<=700000) (L':List Lf) (R':List Rq) (ans:Int) (nw:Bool)
  (hg:pJ X.lives X.reqs ⟨e.request,fM e.kind,e.backend,e.weight,0⟩ X.now X.cf.drain L' R' ans nw) (bw:bJ L' R')
  (bm:nw=true->ans=0->e.kind=6->i8 X.lives e.backend≠1->vQ X.ring e.backend (bR (dQ L')) 0) :
  Calls prog 37 #[.pointer (some ⟨p,0,none⟩),.agg (Ev.cells e).toArray] w (GTo B p w S (jQ X e L' R' ans nw).1 (O++(jQ X e L' R' ans nw).2) (fun _=>True) (.tuple #[])):=by
 have aH:=KL (GA.start h)
 have HX:=KL hm
 have hp:=h.plt
 obtain ⟨k,ky,sl,gn,gd,z,bk,Y⟩:=e
 obtain ⟨hk,r0,r1,b0,b1⟩:=he
 simp only at hk r0 r1 b0 b1 hg bm
 have hd:=hm.cf.1.1
 have hn:=hm.n0
 have c7:=hm.n1
 have au:=KL (show I6 X.lives X.reqs ⟨z,fM k,bk,Y,0⟩ X.now X.cf.drain L' R' ans nw 0 from Or.inr (Or.inr ⟨hm.bk,⟨⟨r0,r1,by simp only;unfold fM;split<;>omega⟩,⟨hn,by omega⟩,by omega,by omega⟩,hg,rfl⟩))
 have bY:=KL bw
 have c0:=KL bm
 unfold Ev.cells
 obtain ⟨AW,bh⟩:∃ AW,AW=jQ X ⟨k,ky,sl,gn,gd,z,bk,Y⟩ L' R' ans nw:=⟨_,rfl⟩
 have HAW:=KL bh
 rw [<- bh]
 obtain ⟨kd,bi⟩:∃ kd,kd=fM k:=⟨_,rfl⟩
 rw [<- bi] at au
 clear h hm hd hn c7 hg bw bm bh
 have l1:¬ w.heap.size+1=w.heap.size:=by omega
 have l2:¬ w.heap.size=w.heap.size+1:=by omega
 have l3:w.heap.size<w.heap.size+1:=by omega
 rcases hk with rfl|rfl
 ·obtain rfl:kd=1:=bi;go_in;go_wp2_with fail;refine fh _ (fun wr a8=>?_)
  have ax:Below w.heap.size w wr:=by rw [a8];exact ((KM _ _).alloc (KY _) _).alloc (by simp) _
  obtain ⟨E,a5⟩:∃ E,E=w.heap.size:=⟨_,rfl⟩;obtain ⟨I,aa⟩:∃ I,I=w.heap.size+1:=⟨_,rfl⟩
  have a3:wr.heap[E]?=some (.cells #[.int .i64 5,.int .i64 ky,.int .i64 sl,.int .i64 gn,.bool gd,.int .i64 z,.int .i64 bk,.int .i64 Y] 61 (0,0)):=by rw [a8,a5];exact (heap_alloc_old _ _ (by simp)).trans (aB _ rfl)
  have W:wr.heap[I]?=some (.cells #[.int .i64 z,.int .i64 1,.int .i64 bk,.int .i64 Y,.int .i64 0] 176 (0,0)):=by rw [a8];exact aB _ (by rw [aa];simp)
  have ay:E∉S:=by rw [a5];exact (aH.out.no (KY _)).2.2.2.1
  rw [<- aa,<- a5];have a9:=KL (aH.out.below ax);have av:=KL ay;clear a8 a5 aa ax ay l1 l2 l3;obtain ⟨st,aF⟩:∃ st,st=i8 X.lives bk:=⟨_,rfl⟩;have am:=KL aF;clear aF;refine (ea a9.out.g.gr bk HX.out.bk).mono ?_;rw [<- am.out];rintro e w2 ⟨rfl,hb2⟩;have J:=KL (a9.out.below hb2);have a3:=aj hb2 a3 (lt_of_block a3);have W:=aj hb2 W (lt_of_block W);have b8:=KL a3;have cb:=lt_of_block W;have bp:=lt_of_block a3;have q0:w2.cell? ⟨I,0,none⟩=some (.int .i64 z):=ae W 0;have q1:w2.cell? ⟨I,1,none⟩=some (.int .i64 1):=ae W 1;have q2:w2.cell? ⟨I,2,none⟩=some (.int .i64 bk):=ae W 2;have q3:w2.cell? ⟨I,3,none⟩=some (.int .i64 Y):=ae W 3;have q4:w2.cell? ⟨I,4,none⟩=some (.int .i64 0):=ae W 4;have bs:=J.out.c 16 (v:=.int .i64 X.now) rfl;have x5:=J.out.c 5 (v:=.int .i64 X.cf.drain) rfl;have af:=J.out.c 19 (v:=V.l) rfl;have ak:=J.out.c 20 (v:=V.r) rfl;obtain ⟨al,cl,el,_⟩:=ap J.out.g.gr.1.li.1;obtain ⟨ar,cr,er,_⟩:=ap J.out.g.gr.1.re.1;rw [el] at af;rw [er] at ak;have HL:=KL J.out.g.gr.1.li.1;have HR:=KL J.out.g.gr.1.re.1;rw [el] at HL;rw [er] at HR;have c8:=J.out.plt;clear el er hb2 a3 W;go_wp2_with fail;refine Km (P:=?jP5) (F:=fun (nb:Nat) (a1:Option Addr) (c1:Nat) (a2:Option Addr) (c2:Nat) wz=>Below w2.heap.size w2 wz/\wz.heap[nb]?=some (.cells #[.slice a1 L'.length c1,.slice a2 R'.length c2] 45 (0,0))/\aN w2.heap.size wz 6 (.slice a1 L'.length c1) (L'.map Lf.cells)/\aN w2.heap.size wz 5 (.slice a2 R'.length c2) (R'.map Rq.cells)) (fun key=>?jm5) ?jr5
  case jm5=>
   refine Zr (fun w':World=>w'.cell? ⟨p,19,none⟩=some (.slice al X.lives.length cl)/\w'.cell? ⟨p,20,none⟩=some (.slice ar X.reqs.length cr)/\w'.cell? ⟨p,16,none⟩=some (.int .i64 X.now)/\w'.cell? ⟨p,5,none⟩=some (.int .i64 X.cf.drain)/\w'.cell? ⟨I,0,none⟩=some (.int .i64 z)/\w'.cell? ⟨I,1,none⟩=some (.int .i64 1)/\w'.cell? ⟨I,2,none⟩=some (.int .i64 bk)/\w'.cell? ⟨I,3,none⟩=some (.int .i64 Y)/\w'.cell? ⟨I,4,none⟩=some (.int .i64 0)) (fun a0=>?_);refine eD 0 ?_;refine eD 8 ?_;refine Zt 16 ?_;refine Z2 17 23 (fun K hK=>?_) (fun K hK=>?_);(focus (go_simp;(go_at_call 69;refine (jI _ _ X.lives X.reqs z 1 bk Y 0 _ _ L' R' ans nw 0 _ (aq HL.out Zb) (aq HR.out Zb) au.out).mono ?_;rintro e w3 ⟨v1,v2,rfl,R1,R2,hb3⟩;obtain ⟨a1,c1,rfl,_⟩:=ap R1.1;obtain ⟨a2,c2,rfl,_⟩:=ap R2.1;have ad:=hb3.size;(try simp at ad);(try (have bxb:=aj hb3 (cO w2 _) (dP w2 _);have bc:w3.cell? ⟨w2.heap.size,0,none⟩=some (.slice none 0 0):=ae bxb 0;have bd:w3.cell? ⟨w2.heap.size,1,none⟩=some (.slice none 0 0):=ae bxb 1;have bf:∀ U,w3.frozen? ⟨w2.heap.size,U,none⟩=false:=az bxb));(try dsimp only));(try go_wp2_with fail);refine Zk hK fun a0=>?_;clear hK K;refine eY 18 ?_;refine Zt 22 ?_;refine Z1 23 (fun K hK=>?_);go_simp;refine Zk hK fun a0=>?_;clear hK K));rotate_left 1;(focus (go_simp;refine Zk hK fun a0=>?_;clear hK K;refine Z1 17 (fun K hK=>?_);go_simp;(go_at_call 69;refine (jI _ _ X.lives X.reqs z 1 bk Y 0 _ _ L' R' ans nw 0 _ (aq HL.out Zb) (aq HR.out Zb) au.out).mono ?_;rintro e w3 ⟨v1,v2,rfl,R1,R2,hb3⟩;obtain ⟨a1,c1,rfl,_⟩:=ap R1.1;obtain ⟨a2,c2,rfl,_⟩:=ap R2.1;have ad:=hb3.size;(try simp at ad);(try (have bxb:=aj hb3 (cO w2 _) (dP w2 _);have bc:w3.cell? ⟨w2.heap.size,0,none⟩=some (.slice none 0 0):=ae bxb 0;have bd:w3.cell? ⟨w2.heap.size,1,none⟩=some (.slice none 0 0):=ae bxb 1;have bf:∀ U,w3.frozen? ⟨w2.heap.size,U,none⟩=false:=az bxb));(try dsimp only));(try go_wp2_with fail);refine Zk hK fun a0=>?_;clear hK K;refine eY 18 ?_;refine Zt 22 ?_));rotate_left 1;(all_goals (refine Z1 24 (fun K hK=>?_);go_simp;refine Zk hK fun a0=>?_;clear hK K;refine dl 25 ?_;refine Zt 27 ?_));(all_goals refine Zd ?_)
   ·exact Q31
   ·exact Q26
  case jr5=>
   rintro nb a1 c1 a2 c2 wz ⟨hbz,hnz,h1,h2⟩;have Z:=KL (J.out.below hbz);have a7:=aj hbz b8.out bp;have cd:=lt_of_block a7;have b9:=KL a7;have z0:wz.cell? ⟨nb,0,none⟩=some (.slice a1 L'.length c1):=ae hnz 0;have z1:wz.cell? ⟨nb,1,none⟩=some (.slice a2 R'.length c2):=ae hnz 1;have e5:wz.cell? ⟨E,5,none⟩=some (.int .i64 z):=ae a7 5;have af:=Z.out.c 19 (v:=V.l) rfl;have ak:=Z.out.c 20 (v:=V.r) rfl;have xf:∀ U,wz.frozen? ⟨p,U,none⟩=false:=fun U=>Z.out.free U;have c9:=Z.out.plt
   have an:¬ E=p:=by intro e;have:=a9.out.g.sp;rw [<- e] at this;exact av.out this
   have ba:=KL (dv J.out.g h1 (KY _));have bb:=KL (dv J.out.g h2 (KY _));clear hbz hnz h1 h2 a7 q0 q1 q2 q3 q4 bs x5;go_wp2_with fail;refine fh _ (fun w4 ac=>?_);have A4:=Z.out.cell 19 (.slice a1 L'.length c1) { X with lives:=L' } { V with l:=.slice a1 L'.length c1 } rfl rfl rfl rfl rfl rfl { Z.out.g.ro with li:=ba.out };have A4:=A4.cell 20 (.slice a2 R'.length c2) { X with lives:=L',reqs:=R' } { V with l:=.slice a1 L'.length c1,r:=.slice a2 R'.length c2 } rfl rfl rfl rfl rfl rfl { A4.g.ro with re:=bI bb.out (by simp) (fun b _ hb=>KV _ _ _ _ (fun e=>hb.1 (by have e':b=p:=e;rw [e'];exact Z.out.g.sp))) }
   have ab:w4.heap[E]?=some (.cells #[.int .i64 5,.int .i64 ky,.int .i64 sl,.int .i64 gn,.bool gd,.int .i64 z,.int .i64 bk,.int .i64 Y] 61 (0,0)):=by rw [ac];exact (KV _ _ _ _ an).trans ((KV _ _ _ _ an).trans b9.out)
   rw [<- ac] at A4;have ao:=KL A4;have aS:=KL ab;have bq:=lt_of_block ab;clear A4 ab ac z0 z1 e5 af ak xf;refine (dw ao.out.g ⟨8,0,0,0,z,ans,0⟩ (by omega)).mono ?_;rintro e w5 aA;obtain ⟨S5,V5,bT,rfl,A5,bj,ca,hb5⟩:=ao.out.call aA;have HA5:=KL A5;have a4:=(hb5 E bq av.out).trans aS.out;have aT:=KL a4;have e0:w5.cell? ⟨E,0,none⟩=some (.int .i64 5):=ae a4 0;have e5:w5.cell? ⟨E,5,none⟩=some (.int .i64 z):=ae a4 5;have e6:w5.cell? ⟨E,6,none⟩=some (.int .i64 bk):=ae a4 6;clear A5 aA bj hb5 a4
   cases nw with
   | false=>
    exact Q86
   | true=>
    by_cases ha0:ans=0
    ·subst ha0;go_wp2_with fail;refine LN (v:=.tuple #[]) (by simp [results,results37,go_sem]) rfl ?_;rw [HAW.out];unfold jQ;simp only;rw [if_pos (by simp)];exact HA5.out.fin trivial
    ·exact Q56
 ·obtain rfl:kd=2:=bi;go_in;go_wp2_with fail;refine fh _ (fun wr a8=>?_)
  have ax:Below w.heap.size w wr:=by rw [a8];exact ((KM _ _).alloc (KY _) _).alloc (by simp) _
  obtain ⟨E,a5⟩:∃ E,E=w.heap.size:=⟨_,rfl⟩;obtain ⟨I,aa⟩:∃ I,I=w.heap.size+1:=⟨_,rfl⟩
  have a3:wr.heap[E]?=some (.cells #[.int .i64 6,.int .i64 ky,.int .i64 sl,.int .i64 gn,.bool gd,.int .i64 z,.int .i64 bk,.int .i64 Y] 61 (0,0)):=by rw [a8,a5];exact (heap_alloc_old _ _ (by simp)).trans (aB _ rfl)
  have W:wr.heap[I]?=some (.cells #[.int .i64 z,.int .i64 2,.int .i64 bk,.int .i64 Y,.int .i64 0] 176 (0,0)):=by rw [a8];exact aB _ (by rw [aa];simp)
  have ay:E∉S:=by rw [a5];exact (aH.out.no (KY _)).2.2.2.1
  rw [<- aa,<- a5];have a9:=KL (aH.out.below ax);have av:=KL ay;clear a8 a5 aa ax ay l1 l2 l3;obtain ⟨st,aF⟩:∃ st,st=i8 X.lives bk:=⟨_,rfl⟩;have am:=KL aF;clear aF;refine (ea a9.out.g.gr bk HX.out.bk).mono ?_;rw [<- am.out];rintro e w2 ⟨rfl,hb2⟩;have J:=KL (a9.out.below hb2);have a3:=aj hb2 a3 (lt_of_block a3);have W:=aj hb2 W (lt_of_block W);have b8:=KL a3;have cb:=lt_of_block W;have bp:=lt_of_block a3;have q0:w2.cell? ⟨I,0,none⟩=some (.int .i64 z):=ae W 0;have q1:w2.cell? ⟨I,1,none⟩=some (.int .i64 2):=ae W 1;have q2:w2.cell? ⟨I,2,none⟩=some (.int .i64 bk):=ae W 2;have q3:w2.cell? ⟨I,3,none⟩=some (.int .i64 Y):=ae W 3;have q4:w2.cell? ⟨I,4,none⟩=some (.int .i64 0):=ae W 4;have bs:=J.out.c 16 (v:=.int .i64 X.now) rfl;have x5:=J.out.c 5 (v:=.int .i64 X.cf.drain) rfl;have af:=J.out.c 19 (v:=V.l) rfl;have ak:=J.out.c 20 (v:=V.r) rfl;obtain ⟨al,cl,el,_⟩:=ap J.out.g.gr.1.li.1;obtain ⟨ar,cr,er,_⟩:=ap J.out.g.gr.1.re.1;rw [el] at af;rw [er] at ak;have HL:=KL J.out.g.gr.1.li.1;have HR:=KL J.out.g.gr.1.re.1;rw [el] at HL;rw [er] at HR;have c8:=J.out.plt;clear el er hb2 a3 W;go_wp2_with fail;refine Km (P:=?jP6) (F:=fun (nb:Nat) (a1:Option Addr) (c1:Nat) (a2:Option Addr) (c2:Nat) wz=>Below w2.heap.size w2 wz/\wz.heap[nb]?=some (.cells #[.slice a1 L'.length c1,.slice a2 R'.length c2] 45 (0,0))/\aN w2.heap.size wz 6 (.slice a1 L'.length c1) (L'.map Lf.cells)/\aN w2.heap.size wz 5 (.slice a2 R'.length c2) (R'.map Rq.cells)) (fun key=>?jm6) ?jr6
  case jm6=>
   refine Zr (fun w':World=>w'.cell? ⟨p,19,none⟩=some (.slice al X.lives.length cl)/\w'.cell? ⟨p,20,none⟩=some (.slice ar X.reqs.length cr)/\w'.cell? ⟨p,16,none⟩=some (.int .i64 X.now)/\w'.cell? ⟨p,5,none⟩=some (.int .i64 X.cf.drain)/\w'.cell? ⟨I,0,none⟩=some (.int .i64 z)/\w'.cell? ⟨I,1,none⟩=some (.int .i64 2)/\w'.cell? ⟨I,2,none⟩=some (.int .i64 bk)/\w'.cell? ⟨I,3,none⟩=some (.int .i64 Y)/\w'.cell? ⟨I,4,none⟩=some (.int .i64 0)) (fun a0=>?_);refine eD 0 ?_;refine eD 8 ?_;refine Zt 16 ?_;refine Z2 17 23 (fun K hK=>?_) (fun K hK=>?_);(focus (go_simp;(go_at_call 69;refine (jI _ _ X.lives X.reqs z 2 bk Y 0 _ _ L' R' ans nw 0 _ (aq HL.out Zb) (aq HR.out Zb) au.out).mono ?_;rintro e w3 ⟨v1,v2,rfl,R1,R2,hb3⟩;obtain ⟨a1,c1,rfl,_⟩:=ap R1.1;obtain ⟨a2,c2,rfl,_⟩:=ap R2.1;have ad:=hb3.size;(try simp at ad);(try (have bxb:=aj hb3 (cO w2 _) (dP w2 _);have bc:w3.cell? ⟨w2.heap.size,0,none⟩=some (.slice none 0 0):=ae bxb 0;have bd:w3.cell? ⟨w2.heap.size,1,none⟩=some (.slice none 0 0):=ae bxb 1;have bf:∀ U,w3.frozen? ⟨w2.heap.size,U,none⟩=false:=az bxb));(try dsimp only));(try go_wp2_with fail);refine Zk hK fun a0=>?_;clear hK K;refine eY 18 ?_;refine Zt 22 ?_;refine Z1 23 (fun K hK=>?_);go_simp;refine Zk hK fun a0=>?_;clear hK K));rotate_left 1;(focus (go_simp;refine Zk hK fun a0=>?_;clear hK K;refine Z1 17 (fun K hK=>?_);go_simp;(go_at_call 69;refine (jI _ _ X.lives X.reqs z 2 bk Y 0 _ _ L' R' ans nw 0 _ (aq HL.out Zb) (aq HR.out Zb) au.out).mono ?_;rintro e w3 ⟨v1,v2,rfl,R1,R2,hb3⟩;obtain ⟨a1,c1,rfl,_⟩:=ap R1.1;obtain ⟨a2,c2,rfl,_⟩:=ap R2.1;have ad:=hb3.size;(try simp at ad);(try (have bxb:=aj hb3 (cO w2 _) (dP w2 _);have bc:w3.cell? ⟨w2.heap.size,0,none⟩=some (.slice none 0 0):=ae bxb 0;have bd:w3.cell? ⟨w2.heap.size,1,none⟩=some (.slice none 0 0):=ae bxb 1;have bf:∀ U,w3.frozen? ⟨w2.heap.size,U,none⟩=false:=az bxb));(try dsimp only));(try go_wp2_with fail);refine Zk hK fun a0=>?_;clear hK K;refine eY 18 ?_;refine Zt 22 ?_));rotate_left 1;(all_goals (refine Z1 24 (fun K hK=>?_);go_simp;refine Zk hK fun a0=>?_;clear hK K;refine dl 25 ?_;refine Zt 27 ?_));(all_goals refine Zd ?_)
   ·exact Q31
   ·exact Q26
  case jr6=>
   rintro nb a1 c1 a2 c2 wz ⟨hbz,hnz,h1,h2⟩;have Z:=KL (J.out.below hbz);have a7:=aj hbz b8.out bp;have cd:=lt_of_block a7;have b9:=KL a7;have z0:wz.cell? ⟨nb,0,none⟩=some (.slice a1 L'.length c1):=ae hnz 0;have z1:wz.cell? ⟨nb,1,none⟩=some (.slice a2 R'.length c2):=ae hnz 1;have e5:wz.cell? ⟨E,5,none⟩=some (.int .i64 z):=ae a7 5;have af:=Z.out.c 19 (v:=V.l) rfl;have ak:=Z.out.c 20 (v:=V.r) rfl;have xf:∀ U,wz.frozen? ⟨p,U,none⟩=false:=fun U=>Z.out.free U;have c9:=Z.out.plt
   have an:¬ E=p:=by intro e;have:=a9.out.g.sp;rw [<- e] at this;exact av.out this
   have ba:=KL (dv J.out.g h1 (KY _));have bb:=KL (dv J.out.g h2 (KY _));clear hbz hnz h1 h2 a7 q0 q1 q2 q3 q4 bs x5;go_wp2_with fail;refine fh _ (fun w4 ac=>?_);have A4:=Z.out.cell 19 (.slice a1 L'.length c1) { X with lives:=L' } { V with l:=.slice a1 L'.length c1 } rfl rfl rfl rfl rfl rfl { Z.out.g.ro with li:=ba.out };have A4:=A4.cell 20 (.slice a2 R'.length c2) { X with lives:=L',reqs:=R' } { V with l:=.slice a1 L'.length c1,r:=.slice a2 R'.length c2 } rfl rfl rfl rfl rfl rfl { A4.g.ro with re:=bI bb.out (by simp) (fun b _ hb=>KV _ _ _ _ (fun e=>hb.1 (by have e':b=p:=e;rw [e'];exact Z.out.g.sp))) }
   have ab:w4.heap[E]?=some (.cells #[.int .i64 6,.int .i64 ky,.int .i64 sl,.int .i64 gn,.bool gd,.int .i64 z,.int .i64 bk,.int .i64 Y] 61 (0,0)):=by rw [ac];exact (KV _ _ _ _ an).trans ((KV _ _ _ _ an).trans b9.out)
   rw [<- ac] at A4;have ao:=KL A4;have aS:=KL ab;have bq:=lt_of_block ab;clear A4 ab ac z0 z1 e5 af ak xf;refine (dw ao.out.g ⟨8,0,0,0,z,ans,0⟩ (by omega)).mono ?_;rintro e w5 aA;obtain ⟨S5,V5,bT,rfl,A5,bj,ca,hb5⟩:=ao.out.call aA;have HA5:=KL A5;have a4:=(hb5 E bq av.out).trans aS.out;have aT:=KL a4;have e0:w5.cell? ⟨E,0,none⟩=some (.int .i64 6):=ae a4 0;have e5:w5.cell? ⟨E,5,none⟩=some (.int .i64 z):=ae a4 5;have e6:w5.cell? ⟨E,6,none⟩=some (.int .i64 bk):=ae a4 6;clear A5 aA bj hb5 a4
   cases nw with
   | false=>
    exact Q86
   | true=>
    by_cases ha0:ans=0
    ·subst ha0;by_cases hs1:st=1
     ·subst hs1;go_wp2_with fail;refine (dw HA5.out.g ⟨9,0,0,bk,z,0,0⟩ (by rw [Ll,List.length_singleton];omega)).mono ?_;rintro e w6 bx;obtain ⟨S6,V6,ch,rfl,A6,_,_,_⟩:=HA5.out.call bx;have bW:=KL A6;clear A6 bx;go_wp2_with fail;refine LN (v:=.tuple #[]) (by simp [results,results37,go_sem]) rfl ?_;rw [HAW.out];unfold jQ;simp only;rw [if_neg (by simp),if_pos am.out.symm];have e:O++[(⟨8,0,0,0,z,0,0⟩:Out),⟨9,0,0,bk,z,0,0⟩]=O++[⟨8,0,0,0,z,0,0⟩]++[⟨9,0,0,bk,z,0,0⟩]:=by simp
      simp only;rw [e];exact bW.out.fin trivial
     ·have cf:(st == 1)=false:=by simpa using hs1
      have bu:=KL hs1;clear hs1;have aL:=HA5.out.c 21 (v:=V5.s) rfl;obtain ⟨ag,cg,eg,_⟩:=ap HA5.out.g.gr.1.sp.1;rw [eg] at aL;have bv:=KL HA5.out.g.gr.1.sp.1;rw [eg] at bv;have c4:=jA HX.out.ring;have c5:X.ring.length*16<=140737488351232:=by omega
      have bE:=HA5.out.plt;have cc:=lt_of_block aT.out;have xf:∀ U,w5.frozen? ⟨p,U,none⟩=false:=fun U=>HA5.out.free U;have c3:=KL (c0.out rfl (by trivial) (by trivial) (by rw [<- am.out];exact bu.out));clear eg c4;go_wp2_with fail;refine Zr (fun w':World=>w'.cell? ⟨E,6,none⟩=some (.int .i64 bk)) (fun a0=>?_);refine eY 0 ?_;refine Zt 4 ?_;refine dl 6 ?_;refine Z1 5 (fun K hK=>?_);go_simp;refine Zk hK fun a0=>?_;clear hK K;refine Z1 8 (fun K hK=>?_);go_simp;(go_at_call 70;refine (zy _ X.ring _ _ _ _ (aq bv.out Zb) c5 c3.out).mono ?_;rintro e w6 ⟨v6,rfl,R6,hb6⟩;obtain ⟨a6,c6,rfl,_⟩:=ap R6.1;have aw:Below w5.heap.size w5 w6:=KS (KN (KM w5.heap.size w5)) (hb6.mono (by simp));have aL:=ah aw aL bE;have xf:∀ U,w6.frozen? ⟨p,U,none⟩=false:=(fun U=>(aw.frozen (p:=⟨p,U,none⟩) bE).trans (xf U));(try dsimp only));(try go_wp2_with fail);refine Zk hK fun a0=>?_;clear hK K;refine eY 9 ?_;refine dl 13 ?_;refine Z1 15 (fun K hK=>?_);go_simp;refine Zk hK fun a0=>?_;clear hK K;refine Zd ?_;refine bA _ (fun w7 bn=>?_);have A6:=HA5.out.below aw;have bt:=KL (show GA B p w S w7 { X with lives:=L',reqs:=R',ring:=bR (dQ L') } (O++[⟨8,0,0,0,z,0,0⟩]) S5 { V5 with s:=.slice a6 (bR (dQ L')).length c6 } bT from by rw [bn];exact A6.cell 21 (.slice a6 (bR (dQ L')).length c6) { X with lives:=L',reqs:=R',ring:=bR (dQ L') } { V5 with s:=.slice a6 (bR (dQ L')).length c6 } rfl rfl rfl rfl rfl rfl { A6.g.ro with sp:=dv HA5.out.g R6 (by simp) })
      have bC:w7.heap[E]?=some (.cells #[.int .i64 6,.int .i64 ky,.int .i64 sl,.int .i64 gn,.bool gd,.int .i64 z,.int .i64 bk,.int .i64 Y] 61 (0,0)):=by rw [bn];exact (KV _ _ _ _ an).trans ((aw.block E cc).trans aT.out)
      have e6:w7.cell? ⟨E,6,none⟩=some (.int .i64 bk):=ae bC 6;clear bn A6 aw hb6 bC aL xf e0 e5;go_wp2_with fail;refine (kC bt.out.g bk bY.out HX.out.tb (by rw [Ll,List.length_singleton];omega)).mono ?_;rintro e w8 bz;obtain ⟨S8,V8,ck,rfl,A8,_,_,_⟩:=bt.out.call bz;have bX:=KL A8;clear A8 bz;go_wp2_with fail;refine LN (v:=.tuple #[]) (by simp [results,results37,go_sem]) rfl ?_;rw [HAW.out];unfold jQ;simp only;rw [if_neg (by simp),if_neg (by rw [<- am.out];exact bu.out)];simp only;rw [List.append_cons];exact bX.out.fin trivial
    ·exact Q56
end
end Go.Proofs.YtennppmadmgfoaaGreatDoor
