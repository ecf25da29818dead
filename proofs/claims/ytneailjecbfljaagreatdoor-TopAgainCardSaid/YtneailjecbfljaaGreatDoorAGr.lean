/- Texts of the row's proof. Conditions: none. -/
import Derived.Test.YtneailjecbfljaaGreatDoorAGrP
import Derived.Test.YtneailjecbfljaaGreatDoorK47
namespace Go.Proofs.YtneailjecbfljaaGreatDoor
set_option maxRecDepth 100000
set_option maxHeartbeats 8000000
open Go.RowKit
theorem prog_many (a:Option Addr) (n c:Nat) (w:World):Calls Tryz.prog 210 #[.slice a n c] w fun e w'=>e=.returned (.int .i64 (n:Int))∧w'=w:=by
 go_enter Tryz.func210,Tryz.ntmps210
 go_wp2
 go_ret
 exact ⟨rfl,rfl⟩
theorem prog_asNil (t:Value) (w:World):Calls Tryz.prog 22 #[.nilIface,t] w fun e w'=>e=.returned (.bool false)∧w'=w:=by
 go_enter Tryz.func22,Tryz.ntmps22
 go_wp2
 go_ret
 exact ⟨rfl,rfl⟩
theorem prog_at {w:World} {L:List Ev} {a:Option Addr} {cp:Nat} (r:aI w 8 (.slice a L.length cp) (L.map Ev.cells)) {i:Nat} (hi:i<L.length) (he:jI (L.getD i Ev.zero) 0) :
  Calls Tryz.prog 209 #[.slice a L.length cp,.int .i64 (i:Int)] w fun e w'=>e=.returned (.tuple #[.agg (Ev.cells (L.getD i Ev.zero)).toArray,.nilIface])∧Below w.heap.size w w':=by
 obtain ⟨_,_,e1,_,_,_,q1⟩:=aK Ev.zero r
 injection e1 with e1 _ e3
 obtain ⟨b,o,e4,hb,q⟩:=q1 (by intro e;rw [e] at hi;simp at hi)
 rw [← e1] at e4
 subst e4
 have hr:w.rangeAt b (o+i*8) (Ev.cells (L.getD i Ev.zero)):=fun j v hj=>by
  have h8:j<8:=by
   rcases Nat.lt_or_ge j 8 with g|g
   ·exact g
   ·rw [Ig (show (Ev.cells (L.getD i Ev.zero)).length≤j from g)] at hj;cases hj
  rw [q i j hi h8];exact hj
 obtain ⟨x,hx⟩:∃ x,x=L.getD i Ev.zero:=⟨_,rfl⟩
 rw [← hx] at hr he ⊢
 obtain ⟨ELzz,hEL⟩:∃ ELzz,ELzz=Ev.cells x:=⟨_,rfl⟩
 rw [← hEL] at hr ⊢
 have i0:(0:Int)≤(i:Int):=by omega
 have i1:(i:Int)<(L.length:Int):=by omega
 have HEL:=Hp hEL
 have HEI:=Hp (show (Tryz.prog.info? 60).map (·.size)=some ELzz.length by rw [hEL];show _=some 8;kernel_rfl)
 have HEZ:=Hp (show ELzz.toArray.size=8 by rw [hEL];rfl)
 have HE1:=Hp (show ELzz.toArray.all (·.oneCell')=true by rw [hEL];simp [Ev.cells,Value.oneCell'])
 have HE:=Hp he
 have HB:=Hp hb
 have HR:=Hp hr
 have h4:(w.alloc (.cells #[.int .i64 0,.int .i64 0,.int .i64 0,.int .i64 0,.bool false,.int .i64 0,.int .i64 0,.int .i64 0] 60 (0,0))).heap[w.heap.size]?=some (.cells #[.int .i64 0,.int .i64 0,.int .i64 0,.int .i64 0,.bool false,.int .i64 0,.int .i64 0,.int .i64 0] 60 (0,0)):=az _ rfl
 have H4:=Hp h4
 clear hx q q1 e1 e3 r h4 he hEL hr
 go_enter Tryz.func209,Tryz.ntmps209
 go_wp2_with (refine wpList_load_mid rfl 60 (.tmp 9) rfl b (o+i*8) rfl ELzz _ (Cr ((Hq _ _).alloc (Hz _) _) HB.out HR.out) Tryz.underlying60 rfl HEI.out ?_)
 rw [HEL.out]
 refine (ve x.kind x.key x.slot x.gen x.good x.request x.backend x.weight 0 _ HE.out).mono ?_
 rintro e w1 ⟨rfl,hb1⟩
 have hB:Below w.heap.size w w1:=((Hq _ _).alloc (Hz _) _).trans (hb1.mono (by simp))
 have K4:=Hp (aj hb1 H4.out (by simp))
 have HBw:=Hp hB
 have HR1:=Hp (Cr hB HB.out HR.out)
 clear hb1 hB
 go_wp2_with (first|(refine wpList_load_mid rfl 60 (.tmp 19) rfl b (o+i*8) rfl ELzz _ HR1.out Tryz.underlying60 rfl HEI.out ?_)|(refine bN rfl 60 (.tmp 4) (.tmp 20) rfl w.heap.size ELzz.toArray rfl rfl 60 _ K4.out (by rw [HEI.out];simp) (by rw [HEZ.out];rfl) HE1.out ?_;intro w2 h2 h3 h5 h6;have H2:=Hp h2;have H6:=Hp h6;clear h2 h3 h5 h6))
 refine It (v:=.tuple #[.agg ELzz.toArray,.nilIface]) ?_ rfl ?_
 ·exact eQ Tryz.results209 _ _ w.heap.size 60 _ (0,0) _ _ rfl rfl H2.out Tryz.underlying60 rfl (by rw [HEI.out];simp)
 ·exact ⟨rfl,HBw.out.trans H6.out⟩
theorem info_OS:(Tryz.prog.info? 61).map (fun i=>(i.zero,i.size,i.bytes))=some (some (.slice none 0 0),1,24):=by kernel_rfl
def OutsN (N:Nat) (w:World) (v:Value) (Os:List (List Out)):Prop:=∃ VV:List Value,VV.length=Os.length∧dd (fun b=>N≤b) w 1 v (VV.map fun x=>[x])∧∀ i,i<Os.length→dd (fun b=>N≤b) w 7 (VV.getD i undef) ((Os.getD i []).map Out.cells)
theorem OutsN.keep {N:Nat} {w w':World} {v:Value} {Os:List (List Out)} (h:OutsN N w v Os) (hs:w.heap.size≤w'.heap.size) (hb:∀ b,b<w.heap.size→N≤b→w'.heap[b]?=w.heap[b]?):OutsN N w' v Os:=by
 obtain ⟨VV,h1,h2,h3⟩:=h
 exact ⟨VV,h1,bF h2 hs hb,fun i hi=>bF (h3 i hi) hs hb⟩
theorem OutsN.mono {N M:Nat} {w:World} {v:Value} {Os:List (List Out)} (h:OutsN N w v Os) (hM:M≤N):OutsN M w v Os:=by
 obtain ⟨VV,h1,h2,h3⟩:=h
 exact ⟨VV,h1,bQ h2 (fun b _ h=>Il hM h),fun i hi=>bQ (h3 i hi) (fun b _ h=>Il hM h)⟩
def RunPost (w:World) (c:Cf) (L:List Ev) (e:Ending) (w':World):Prop:=∃ V a cp,e=.returned (.tuple #[.agg (ds (runW (dx c) L).1 V).toArray,.slice a L.length cp,.int .i64 0])∧(ds (runW (dx c) L).1 V).toArray.all (·.oneCell')=true∧(L≠[]→WK (fun b=>w.heap.size≤b) w' (runW (dx c) L).1 V)∧OutsN w.heap.size w' (.slice a L.length cp) (runW (dx c) L).2∧Below w.heap.size w w'
structure RunR (N r q:Nat) (w wr:World) (R:Wd×List (List Out)) (V:Vs) (VV:List Value) (v:Value):Prop where
 bk:wr.heap[q]?=some (.cells (ds R.1 V).toArray 55 (0,0))
 rz:wr.heap[r]?=some (.cells bP 55 (0,0))
 wk:WK (fun b=>b≠q∧(R.2≠[]→N≤b∧b≠r)∧v.ownBlock≠some b) wr R.1 V
 vl:VV.length=R.2.length
 ow:wr.ownsRow N 61 1 v R.2.length VV
 ro:∀ i,i<R.2.length→dd (fun b=>b≠q∧(N≤b∧b≠r)∧v.ownBlock≠some b) wr 7 (VV.getD i undef) ((R.2.getD i []).map Out.cells)
 be:Below N w wr
 nq:N≤q∧N≤r∧q≠r
 sepv:∀ b,v.ownBlock=some b→b≠q∧b≠r
theorem flat_one (VV:List Value):(VV.map fun x=>[x]).flatten=VV:=by induction VV with|nil=>rfl|cons a L ih=>simp [ih]
theorem RunR.step {N M r q:Nat} {w wr w5 w6 w7:World} {R:Wd×List (List Out)} {V V2:Vs} {VV:List Value} {v v7 vo:Value} {e:Ev} (h:RunR N r q w wr R V VV v) (hN:N≤wr.heap.size) (hb:Below wr.heap.size wr w5) (hM:wr.heap.size≤M)
  (hk2:WK (fun b=>M≤b) w5 (mN R.1 e).1 V2) (hr2:dd (fun b=>M≤b) w5 7 vo ((mN R.1 e).2.map Out.cells))
  (hq6:w6.heap[q]?=some (.cells (ds (mN R.1 e).1 V2).toArray 55 (0,0))) (f6:∀ b,b≠q→w6.heap[b]?=w5.heap[b]?) (s6:w6.heap.size=w5.heap.size)
  (o7:w7.ownsRow N 61 1 v7 (R.2.length+1) (VV++[vo])) (f7:∀ b,b<w6.heap.size→v.ownBlock≠some b→w7.heap[b]?=w6.heap[b]?) (s7:w6.heap.size≤w7.heap.size)
  (n7zz:∀ b,v7.ownBlock=some b→v.ownBlock=some b∨w6.heap.size≤b) (b7:Below N w w7):RunR N r q w w7 (runF R e) V2 (VV++[vo]) v7:=by
 have lq:=lt_of_block h.bk
 have lr:=lt_of_block h.rz
 have hs:=hb.size
 have hown:∀ b,v.ownBlock=some b→b<wr.heap.size:=fun b e=>(h.ow.lt b e).2
 have fr:∀ b,b<w5.heap.size→b≠q→v.ownBlock≠some b→w7.heap[b]?=w5.heap[b]?:=fun b h1 h2 h3=>(f7 b (by omega) h3).trans (f6 b h2)
 have kk:∀ b,b<w5.heap.size→M≤b→w7.heap[b]?=w5.heap[b]?:=fun b h1 h2=>fr b h1 (by omega) (fun e=>by have:=hown b e;omega)
 have nn:∀ b,b<w5.heap.size→M≤b→b≠q∧(N≤b∧b≠r)∧v7.ownBlock≠some b:=fun b h1 h2=>⟨by omega,⟨by omega,by omega⟩,fun e=>by
  rcases n7zz b e with g|g
  ·have:=hown b g;omega
  ·omega⟩
 have sz:w5.heap.size≤w7.heap.size:=by omega
 have old:∀ {sz:Nat} {x:Value} {X:List (List Value)},dd (fun b=>b≠q∧(N≤b∧b≠r)∧v.ownBlock≠some b) wr sz x X→dd (fun b=>b≠q∧(N≤b∧b≠r)∧v7.ownBlock≠some b) w7 sz x X:=fun hx=>
  bQ (bF (bQ hx (K':=fun b=>(b≠q∧v.ownBlock≠some b)∧b≠q∧(N≤b∧b≠r)∧v7.ownBlock≠some b) (fun b h1 h2=>⟨⟨h2.1,h2.2.2⟩,h2.1,h2.2.1,fun e=>by
   rcases n7zz b e with g|g
   ·exact h2.2.2 g
   ·omega⟩)) (by omega) (fun b h1 h2=>(fr b (by omega) h2.1.1 h2.1.2).trans (hb.block b h1))) (fun b _ h2=>h2.2)
 have l7:(runF R e).2.length=R.2.length+1:=by show (R.2++[_]).length=_;simp
 refine ⟨?_,?_,((hk2.imp (K':=fun b=>M≤b∧(b≠q∧(N≤b∧b≠r)∧v7.ownBlock≠some b)) (fun b h1 h2=>⟨h2,nn b h1 h2⟩)).keep sz (fun b h1 h2=>kk b h1 h2.1)).imp (fun b _ h2=>⟨h2.2.1,fun _=>h2.2.2.1,h2.2.2.2⟩),?_,?_,fun i hi=>?_,b7,h.nq,fun b e=>?_⟩
 ·rw [f7 q (by omega) (fun e=>(h.sepv q e).1 rfl)];exact hq6
 ·rw [fr r (by omega) h.nq.2.2.symm (fun e=>(h.sepv r e).2 rfl)];exact (hb.block r lr).trans h.rz
 ·rw [l7,I8,h.vl];rfl
 ·rw [l7];exact o7
 ·rw [l7] at hi
  rw [sD VV vo undef i (by rw [h.vl];exact hi),h.vl]
  show dd _ w7 7 _ (((R.2++[(mN R.1 e).2]).getD i []).map Out.cells)
  rw [sD R.2 _ [] i hi]
  by_cases g:i<R.2.length
  ·rw [if_pos g,if_pos g];exact old (h.ro i g)
  ·rw [if_neg g,if_neg g]
   exact bQ (bF (bQ hr2 (K':=fun b=>M≤b∧(b≠q∧(N≤b∧b≠r)∧v7.ownBlock≠some b)) (fun b h1 h2=>⟨h2,nn b h1 h2⟩)) sz (fun b h1 h2=>kk b h1 h2.1)) (fun b _ h2=>h2.2)
 ·rcases n7zz b e with g|g
  ·exact h.sepv b g
  ·exact ⟨by omega,by omega⟩
theorem prog_run {c:Cf} (hc:jr c) {L:List Ev} (hL:∀ e∈L,EvGood e) (h4:L.length≤4000) {a:Option Addr} {cp:Nat} {w:World} (r0:aI w 8 (.slice a L.length cp) (L.map Ev.cells)) :
  Calls Tryz.prog 13 #[.agg (Cf.cells c).toArray,.iface 84 (.slice a L.length cp)] w (RunPost w c L):=by
 have HC:=Hp hc
 have HL:=Hp hL
 have HR:=Hp r0
 obtain ⟨CA,hCA⟩:∃ CA,CA=(Cf.cells c).toArray:=⟨_,rfl⟩
 rw [← hCA]
 have HCI:=Hp (show (Tryz.prog.info? 35).map (·.size)=some CA.size by rw [hCA];exact tX c)
 have HCA:=Hp hCA
 have m1 : ∀ w, (method 466 84 (.slice a L.length cp) "usher/gate.many").run Tryz.prog w = .ok (210, .slice a L.length cp) w := fun _ => by kernel_rfl
 have m2 : ∀ w, (method 466 84 (.slice a L.length cp) "usher/gate.at").run Tryz.prog w = .ok (209, .slice a L.length cp) w := fun _ => by kernel_rfl
 have HK:=Hp (show ((w.alloc (.cells CA 35 (0,0))).alloc (.cells bP 55 (0,0))).heap[w.heap.size]?=some (.cells CA 35 (0,0)) from (Hu _ _ _ (by simp)).trans (az _ rfl))
 have HZ:=Hp (show ((w.alloc (.cells CA 35 (0,0))).alloc (.cells bP 55 (0,0))).heap[w.heap.size+1]?=some (.cells bP 55 (0,0)) from az _ (by simp))
 have HB0:=Hp (show Below w.heap.size w ((w.alloc (.cells CA 35 (0,0))).alloc (.cells bP 55 (0,0))) from ((Hq _ _).alloc (Hz _) _).alloc (by simp) _)
 clear hc hL r0 hCA
 go_enter Tryz.func13,Tryz.ntmps13
 go_wp2_with (refine Iu rfl 35 (.tmp 2) rfl w.heap.size rfl 35 CA (0,0) _ HK.out Tryz.underlying35 rfl HCI.out ?_)
 refine dt _ (fun wb hwb=>?_)
 have hb0:Below w.heap.size w wb:=by rw [hwb];exact HB0.out
 have hz0:wb.heap[w.heap.size+1]?=some (.cells bP 55 (0,0)):=by rw [hwb];exact HZ.out
 clear hwb HK HZ HB0
 rw [HCA.out]
 refine (Cy c HC.out wb).mono ?_
 rintro e w1 ⟨V,rfl,hk1,hb1⟩
 obtain ⟨AW,hAW⟩:∃ AW,AW=(ds (dx c) V).toArray:=⟨_,rfl⟩
 rw [← hAW]
 have HAW:=Hp hAW
 have HWI:=Hp (show (Tryz.prog.info? 55).map (·.size)=some AW.size by rw [hAW];show _=some 26;kernel_rfl)
 have HWZ:=Hp (show AW.size=26 by rw [hAW];rfl)
 have HW1:=Hp (show AW.all (·.oneCell')=true by rw [hAW];exact kl hk1)
 have HK1:=Hp hk1
 have h01:=hb0.trans (hb1.mono hb0.size)
 have l0:=lt_of_block hz0
 have hz1:=aj hb1 hz0 l0
 have H01:=Hp h01
 have HZ1:=Hp hz1
 have hs1:=hb1.size
 clear hAW hk1 hb0 hb1 h01 hz0 hz1
 go_wp2_with (first|(refine Iv rfl 55 (.tmp 7) (.tmp 20) rfl w1.heap.size AW rfl rfl 55 _ (az _ rfl) HWI.out (by rw [HWZ.out];rfl) HW1.out ?_;refine aY _ (fun w2 hw2=>?_);have k2:w2.heap[w1.heap.size]?=some (.cells AW 55 (0,0)):=(by rw [hw2];exact aZ (az _ rfl));have b2:Below w1.heap.size w1 w2:=(by rw [hw2];exact aW ((Hq _ _).alloc (Hz _) _) (Hz _));have K2:=Hp k2;have B2:=Hp b2;clear hw2 k2 b2)|(go_at_call 210;refine (prog_many _ _ _ _).mono ?_;rintro e w_ ⟨rfl,hE⟩;subst w_))
 obtain ⟨q,hq⟩:∃ q,q=w1.heap.size:=⟨_,rfl⟩
 have HR0:=Hp (show RunR w.heap.size (w.heap.size+1) q w w2 (runW (dx c) (L.take 0)) V [] (.slice none 0 0) from by
  have hwk:WK (fun b=>b≠q∧(([]:List (List Out))≠[]→w.heap.size≤b∧b≠w.heap.size+1)∧(Value.slice none 0 0).ownBlock≠some b) w2 (dx c) V:=by
   refine WK.keep (HK1.out.imp (fun b hb _=>⟨by omega,fun h=>absurd rfl h,by simp [Value.ownBlock]⟩)) B2.out.size (fun b hb _=>B2.out.block b hb)
  exact ⟨by rw [hq,K2.out,HAW.out];rfl,aj B2.out HZ1.out (lt_of_block HZ1.out),hwk,rfl,Iq _ _ _ _,fun i hi=>absurd hi (Nat.not_lt_zero i),H01.out.trans (B2.out.mono H01.out.size),⟨by omega,by omega,by omega⟩,fun b e=>by simp [Value.ownBlock] at e⟩)
 rw [← hq]
 clear HK1 HZ1 H01 B2 K2 HWI HWZ HW1 HAW hs1 l0 hq
 go_loopw [9,32] (fun v i wr=>∃ (k:Nat) (V:Vs) (VV:List Value),k≤L.length∧i=.int .i64 k∧RunR w.heap.size (w.heap.size+1) q w wr (runW (dx c) (L.take k)) V VV v) (fun _ i _=>L.length - (intOf i).toNat)
 case atStart=>exact ⟨0,V,[],I0 _,rfl,HR0.out⟩
 case round=>
  obtain ⟨k,V,VV,hk,rfl,hrr⟩:=hrel
  have hlen:=runW_len (dx c) L hk
  obtain ⟨av,cv,ev,_⟩:=aC hrr.ow
  rw [hlen] at ev
  subst ev
  have hmay:=run_may HC.out HL.out h4 hk
  have hsu:=fun h=>runW_succ (dx c) (L:=L) (k:=k) h
  obtain ⟨R,hR⟩:∃ R,R=runW (dx c) (L.take k):=⟨_,rfl⟩
  rw [← hR] at hrr hlen hmay hsu
  obtain ⟨AW,hAW⟩:∃ AW,AW=(ds R.1 V).toArray:=⟨_,rfl⟩
  have hbk:=hrr.bk
  rw [← hAW] at hbk
  have HBk:=Hp hbk
  have HAW:=Hp hAW
  have HWI:=Hp (show (Tryz.prog.info? 55).map (·.size)=some AW.size by rw [hAW];show _=some 26;kernel_rfl)
  have HWZ:=Hp (show AW.size=26 by rw [hAW];rfl)
  have HW1:=Hp (show AW.all (·.oneCell')=true by rw [hAW];exact kl hrr.wk)
  have HRr:=Hp hrr
  have HMy:=Hp hmay
  have HLn:=Hp hlen
  have lq:=lt_of_block hbk
  have lN:w.heap.size≤wr.heap.size:=hrr.be.size
  clear hrr hmay hlen hbk hAW
  rcases (show k<L.length∨k=L.length by omega) with hlt|rfl
  ·have hlt':(k:Int)<(L.length:Int):=by omega
   have hgd:EvGood (L.getD k Ev.zero):=by rw [aO hlt];exact HL.out _ (Ib _)
   have HAt:=Hp (prog_at (au HR.out HRr.out.be) hlt hgd.ok)
   have hsu':=hsu hlt
   obtain ⟨x,hx⟩:∃ x,x=L.getD k Ev.zero:=⟨_,rfl⟩
   rw [← hx] at HAt hgd hsu'
   obtain ⟨EA,hEA⟩:∃ EA,EA=(Ev.cells x).toArray:=⟨_,rfl⟩
   rw [← hEA] at HAt
   have HSu:=Hp hsu'
   have HGd:=Hp hgd
   have HEA:=Hp hEA
   have HEI:=Hp (show (Tryz.prog.info? 60).map (·.size)=some EA.size by rw [hEA];show _=some 8;kernel_rfl)
   have HEZ:=Hp (show EA.size=8 by rw [hEA];rfl)
   have HE1:=Hp (show EA.all (·.oneCell')=true by rw [hEA];simp [Ev.cells,Value.oneCell'])
   clear hx hsu hsu' hgd hEA hR
   go_wp2_with (first|(go_at_call 209;refine HAt.out.mono ?_;rintro e w3 ⟨rfl,hb3⟩)|(refine Iv rfl 60 (.tmp 11) (.tmp 39) rfl w3.heap.size EA rfl rfl 60 _ (az _ rfl) HEI.out (by rw [HEZ.out];rfl) HE1.out ?_;refine aY _ (fun w4 hw4=>?_);have k4:w4.heap[w3.heap.size]?=some (.cells EA 60 (0,0)):=(by rw [hw4];exact aZ (az _ rfl));have b4:Below w3.heap.size w3 w4:=(by rw [hw4];exact aW ((Hq _ _).alloc (Hz _) _) (Hz _));clear hw4)|(go_at_call 22;refine (prog_asNil _ _).mono ?_;rintro e w_ ⟨rfl,hE⟩;subst w_;refine aY _ (fun w5 hw5=>?_);have b45:Below w4.heap.size w4 w5:=(by rw [hw5];exact (Hq _ _).alloc (Hz _) _);have b5:Below wr.heap.size wr w5:=hb3.trans ((b4.trans (b45.mono b4.size)).mono hb3.size);have K5:=Hp (aj b45 k4 (lt_of_block k4));have B5:=Hp b5;have Q5:=Hp (aj b5 HBk.out lq);clear hw5 b45 b5 k4 b4 hb3)|(refine Iu rfl 55 (.tmp 7) rfl q rfl 55 AW (0,0) _ Q5.out Tryz.underlying55 rfl HWI.out ?_)|(refine Iu rfl 60 (.tmp 11) rfl w3.heap.size rfl 60 EA (0,0) _ K5.out Tryz.underlying60 rfl HEI.out ?_))
   rw [HAW.out,HEA.out]
   refine (zi (HRr.out.wk.wa.below B5.out) HMy.out.1 x HGd.out.ok (HGd.out.may (by have:=HMy.out.2;omega))).mono ?_
   rintro e w6 ⟨V6,a6,c6,rfl,hk6,hr6,hb6⟩
   obtain ⟨AYzz,hAY⟩:∃ AYzz,AYzz=(ds (mN R.1 x).1 V6).toArray:=⟨_,rfl⟩
   rw [← hAY]
   have HAY:=Hp hAY
   have HYI:=Hp (show (Tryz.prog.info? 55).map (·.size)=some AYzz.size by rw [hAY];show _=some 26;kernel_rfl)
   have HYZ:=Hp (show AYzz.size=26 by rw [hAY];rfl)
   have HY1:=Hp (show AYzz.all (·.oneCell')=true by rw [hAY];exact kl hk6)
   have HK6:=Hp hk6
   have HR6:=Hp hr6
   have B6:=Hp (B5.out.trans (hb6.mono B5.out.size))
   have HOw:=Hp (show wr.ownsRow w.heap.size 61 1 (.slice av k cv) k VV by have h1:=HRr.out.ow;rw [HLn.out] at h1;exact h1)
   have hs5:=B5.out.size
   have hs6:=hb6.size
   have HQ6:=Hp (aj B6.out HBk.out lq)
   have hoL:(mN R.1 x).2.length≤maxLen:=by
    obtain ⟨_,_,e,g1,g2,_⟩:=hr6.1
    simp only [Value.slice.injEq,I5] at e g1
    omega
   obtain ⟨no,hno⟩:∃ n,n=(mN R.1 x).2.length:=⟨_,rfl⟩
   rw [← hno] at HR6 ⊢
   obtain ⟨i0,hi,hi0,hi1,hi2⟩:=info_parts info_OS
   clear hAY hk6 hr6 hb6 hoL hno
   go_wp2_with (first|(refine Iv rfl 55 (.tmp 14) (.tmp 54) rfl w6.heap.size AYzz rfl rfl 55 _ (az _ rfl) HYI.out (by rw [HYZ.out];rfl) HY1.out ?_;refine aY _ (fun w7 hw7=>?_);have K7:=Hp (show w7.heap[w6.heap.size]?=some (.cells AYzz 55 (0,0)) by rw [hw7];exact aZ (az _ rfl));have B7zz:=Hp (show Below w6.heap.size w6 w7 by rw [hw7];exact aW ((Hq _ _).alloc (Hz _) _) (Hz _));have Q7:=Hp (aj B7zz.out HQ6.out (lt_of_block HQ6.out));clear hw7)|(refine Iu rfl 55 (.tmp 14) rfl w6.heap.size rfl 55 AYzz (0,0) _ K7.out Tryz.underlying55 rfl HYI.out ?_)|(refine bN rfl 55 (.tmp 7) (.tmp 61) rfl q AYzz rfl rfl 55 _ Q7.out HYI.out (by rw [HYZ.out,HWZ.out]) HY1.out ?_;intro w8 q8 f8 s8 b8zz;have Q8:=Hp q8;have F8:=Hp f8;have S8:=Hp s8;have B8zz:=Hp b8zz;have HO8:=Hp (show w8.ownsRow w.heap.size 61 1 (.slice av k cv) k VV from aX (bA HOw.out (B6.out.trans (B7zz.out.mono B6.out.size))) (fun b e=>f8 b (HRr.out.sepv b e).1));clear q8 f8 s8 b8zz)|(at_builtin;refine fN _ rfl _ _ 64 rfl w.heap.size 61 i0 (.slice none 0 0) 1 24 Tryz.underlying64 hi hi0 hi1 hi2 rfl (by decide) (.slice av k cv) k VV rfl (HO8.out.alloc _) ⟨w8.heap.size,0,none⟩ 1 1 [.slice a6 no c6] rfl rfl (km [.slice a6 no c6] 61) (by intro u hu;simp at hu;subst hu;rfl) (by decide) (by unfold maxLen;omega) (by omega) (by simp;have:=B8zz.out.size;have:=B7zz.out.size;omega) ?_;intro v9 w9 hown9 hgr9 hnew9;obtain ⟨a9,c9,e9,_⟩:=aC hown9;subst e9;have H9zz:=Hp (And.intro hown9 (And.intro hgr9 hnew9));clear hown9 hgr9 hnew9))
   go_roundw
   case rel=>
    have h9:=H9zz.out
    refine ⟨k+1,V6,VV++[.slice a6 no c6],by omega,by go_num,?_⟩
    rw [HSu.out]
    have hsz8:=S8.out
    have hsz7:=B7zz.out.size
    have hs9:w8.heap.size≤w9.heap.size:=by have:=h9.2.1.size;simp at this;omega
    have hf9:∀ b,b<w8.heap.size→(Value.slice av k cv).ownBlock≠some b→w9.heap[b]?=w8.heap[b]?:=fun b hb hn=>(h9.2.1.block b (by simp;omega) (fun e=>hn e.symm)).trans (Hu _ _ _ hb)
    have hb9:Below w.heap.size w w9:=((HRr.out.be.trans (B6.out.mono lN)).trans ((B7zz.out.mono (by omega)).trans (B8zz.out.mono HRr.out.nq.1))).trans (cJ (wr:=w8) ((Hq _ _).alloc (Hz _) _) (by omega) HO8.out h9.2.1)
    refine RunR.step (M:=w5.heap.size) (w5:=w7) (w6:=w8) HRr.out lN (B6.out.trans (B7zz.out.mono B6.out.size)) hs5 (HK6.out.keep B7zz.out.size (fun b hb _=>B7zz.out.block b hb)) ?_ (by rw [Q8.out,HAY.out]) F8.out S8.out (by rw [HLn.out];exact h9.1) hf9 hs9 (fun b e=>?_) hb9
    ·exact bF (ep HR6.out) B7zz.out.size (fun b hb _=>B7zz.out.block b hb)
    ·rcases h9.2.2 b e with g|g
     ·exact Or.inl g
     ·exact Or.inr (by simp at g;omega)
   case measure=>simp [intOf];omega
  ·have hge:¬ (L.length:Int)<(L.length:Int):=by omega
   have hfr:∀ w',(∀ b,b≠w.heap.size+1→w'.heap[b]?=wr.heap[b]?)→w'.heap.size=wr.heap.size→(L≠[]→WK (fun b=>w.heap.size≤b) w' R.1 V)∧OutsN w.heap.size w' (.slice av L.length cv) R.2:=fun w' f s=>by
    have h:=HRr.out
    refine ⟨fun hne=>?_,VV,h.vl,ep (aD (e:=61) (n:=R.2.length) ?_ (by simp [h.vl]) (by intro c hc;obtain ⟨x,_,rfl⟩:=Io.1 hc;rfl)),fun i hi=>bQ (bF (h.ro i hi) (by omega) (fun b _ hb=>f b hb.2.1.2)) (fun b _ hb=>hb.2.1.1)⟩
    ·have hn2:R.2≠[]:=fun e=>by
      have:=HLn.out
      rw [e] at this
      exact hne (List.length_eq_zero_iff.1 this.symm)
     exact (h.wk.keep (by omega) (fun b _ hb=>f b (hb.2.1 hn2).2)).imp (fun b _ hb=>(hb.2.1 hn2).1)
    ·rw [flat_one]
     exact aX h.ow (fun b e=>f b (h.sepv b e).2)
   rw [List.take_length] at hR
   have HFr:=Hp hfr
   have HRe:=Hp hR
   have HZr:=Hp HRr.out.rz
   have HBe:=Hp HRr.out.be
   clear hfr hR hsu
   go_wp2_with (first|(refine Iu rfl 55 (.tmp 7) rfl q rfl 55 AW (0,0) _ HBk.out Tryz.underlying55 rfl HWI.out ?_)|(refine bN rfl 55 (.tmp 4) (.tmp 67) rfl (w.heap.size+1) AW rfl rfl 55 _ HZr.out HWI.out (by rw [HWZ.out];rfl) HW1.out ?_;intro w3 h3 f3 s3 b3;have H3:=Hp h3;have F3zz:=Hp f3;have S3:=Hp s3;have B3:=Hp b3;clear h3 f3 s3 b3))
   refine It (v:=.tuple #[.agg AW,.slice av L.length cv,.int .i64 0]) ?_ rfl ?_
   ·exact mj Tryz.results13 _ _ (w.heap.size+1) 55 AW (0,0) _ _ _ rfl rfl rfl H3.out Tryz.underlying55 rfl HWI.out
   ·obtain ⟨g1,g2⟩:=HFr.out w3 F3zz.out S3.out
    rw [HRe.out] at g1 g2
    exact ⟨V,av,cv,by rw [HAW.out,HRe.out],by rw [← HRe.out,← HAW.out];exact HW1.out,g1,g2,HBe.out.trans (B3.out.mono (by omega))⟩
theorem prog_Run {c:Cf} (hc:jr c) {L:List Ev} (hL:∀ e∈L,EvGood e) (h4:L.length≤4000) {a:Option Addr} {cp:Nat} {w:World} (r0:aI w 8 (.slice a L.length cp) (L.map Ev.cells)) :
  Calls Tryz.prog 6 #[.agg (Cf.cells c).toArray,.slice a L.length cp] w (RunPost w c L):=by
 have HB0:=Hp (show Below w.heap.size w ((w.alloc (.cells (Cf.cells c).toArray 35 (0,0))).alloc (.cells bP 55 (0,0))) from ((Hq _ _).alloc (Hz _) _).alloc (by simp) _)
 have HRn:=Hp (prog_run hc hL h4 (au r0 HB0.out))
 obtain ⟨CA,hCA⟩:∃ CA,CA=(Cf.cells c).toArray:=⟨_,rfl⟩
 rw [← hCA] at HB0 HRn ⊢
 have HCI:=Hp (show (Tryz.prog.info? 35).map (·.size)=some CA.size by rw [hCA];exact tX c)
 have HK:=Hp (show ((w.alloc (.cells CA 35 (0,0))).alloc (.cells bP 55 (0,0))).heap[w.heap.size]?=some (.cells CA 35 (0,0)) from (Hu _ _ _ (by simp)).trans (az _ rfl))
 have HZ:=Hp (show ((w.alloc (.cells CA 35 (0,0))).alloc (.cells bP 55 (0,0))).heap[w.heap.size+1]?=some (.cells bP 55 (0,0)) from az _ (by simp))
 clear hc hL r0 hCA
 go_enter Tryz.func6,Tryz.ntmps6
 go_wp2_with (refine Iu rfl 35 (.tmp 2) rfl w.heap.size rfl 35 CA (0,0) _ HK.out Tryz.underlying35 rfl HCI.out ?_)
 refine HRn.out.mono ?_
 rintro e w1 ⟨V,a1,c1,rfl,h11,hk1,ho1,hb1⟩
 obtain ⟨AW,hAW⟩:∃ AW,AW=(ds (runW (dx c) L).1 V).toArray:=⟨_,rfl⟩
 rw [← hAW] at h11 ⊢
 have HAW:=Hp hAW
 have HWI:=Hp (show (Tryz.prog.info? 55).map (·.size)=some AW.size by rw [hAW];show _=some 26;kernel_rfl)
 have HWZ:=Hp (show AW.size=26 by rw [hAW];rfl)
 have HW1:=Hp h11
 have HZ1:=Hp (aj hb1 HZ.out (by simp))
 have HB1:=Hp (HB0.out.trans (hb1.mono HB0.out.size))
 have HO1:=Hp (And.intro hk1 ho1)
 clear hAW hk1 ho1 hb1 h11
 go_wp2_with (refine bN rfl 55 (.tmp 4) (.tmp 11) rfl (w.heap.size+1) AW rfl rfl 55 _ HZ1.out HWI.out (by rw [HWZ.out];rfl) HW1.out ?_;intro w3 h3 f3 s3 b3;have H3:=Hp h3;have F3zz:=Hp f3;have S3:=Hp s3;have B3:=Hp b3;clear h3 f3 s3 b3)
 refine It (v:=.tuple #[.agg AW,.slice a1 L.length c1,.int .i64 0]) ?_ rfl ?_
 ·exact mj Tryz.results6 _ _ (w.heap.size+1) 55 AW (0,0) _ _ _ rfl rfl rfl H3.out Tryz.underlying55 rfl HWI.out
 ·have g1:=fun hne=>(HO1.out.1 hne).keep (w':=w3) (by have:=S3.out;omega) (fun b _ hb=>F3zz.out b (by simp at hb;omega))
  have g2:=HO1.out.2.keep (w':=w3) (by have:=S3.out;omega) (fun b _ hb=>F3zz.out b (by simp at hb;omega))
  exact ⟨V,a1,c1,by rw [HAW.out],by rw [← HAW.out];exact HW1.out,fun hne=>(g1 hne).imp (fun b _ hb=>by simp at hb;omega),g2.mono (by simp;omega),HB1.out.trans (B3.out.mono (by omega))⟩
end Go.Proofs.YtneailjecbfljaaGreatDoor
