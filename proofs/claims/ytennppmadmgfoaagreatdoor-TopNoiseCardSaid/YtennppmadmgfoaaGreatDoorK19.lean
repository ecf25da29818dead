/- Texts of the row's proof. Conditions: none. -/
import Derived.Test.YtennppmadmgfoaaGreatDoorK18
namespace Go.Proofs.YtennppmadmgfoaaGreatDoor
open Proofs.Tryz
set_option maxRecDepth 100000
set_option maxHeartbeats 8000000
section
open Go.RowKit
theorem sP (vl vr:Value) (L:List Lf) (R:List Rq) (id bk wt E now drain:Int) (L':List Lf) (ans:Int) (w:World) (hl:aK w 6 vl (L.map Lf.cells)) (hr:aK w 5 vr (R.map Rq.cells)) (h:bJ L R) (hn:sC ⟨id,1,bk,wt,E⟩ now drain) (he:aU (kq id) R=-1) (hf:R.length≠100) (hA:yX L ⟨id,1,bk,wt,E⟩ L' ans) :
  Calls prog 69 #[.agg #[vl,vr],.agg #[.int .i64 id,.int .i64 1,.int .i64 bk,.int .i64 wt,.int .i64 E],.int .i64 now,.int .i64 drain] w (jV w L' (R++[⟨id,1,bk,wt,ans⟩]) ans true 0):=by
 have HA:=KL hA
 have aS:=h.1
 have HL:=KL hl;have HR:=KL hr;have H:=KL h;have bi:=h.2.1;obtain ⟨a,c,rfl,_⟩:=ap hl;obtain ⟨a',c',rfl,_⟩:=ap hr;have HQ:Hid (RqQ ⟨id,1,bk,wt,E⟩ true):=Or.inl ⟨hn.1,rfl⟩;obtain ⟨_,⟨h0,h1⟩,h2,h3⟩:=hn;clear hl hr h
 have HE:=KL he
 have bm:((R.length:Int) == 100)=false:=by rw [beq_eq_false_iff_ne];omega
 have bj:R.length<=99:=by omega
 obtain ⟨i1,ki,al,am,ao⟩:=info_parts Br
 clear he hf hA
 go_in
 go_wp2_with fail;refine (cV _ _ L R _ (ai (ai (ai HL.out _) _) _) (ai (ai (ai HR.out _) _) _) H.out).mono ?_;rintro e w1 ⟨p,v1,v2,rfl,K1,hb1⟩
 have B1:=KL ((((((KM w.heap.size w).alloc (KY _) (.cells #[.slice a L.length c,.slice a' R.length c'] 45)).alloc (by simp) (.cells #[.int .i64 id,.int .i64 1,.int .i64 bk,.int .i64 wt,.int .i64 E] 176)).alloc Zs (.cells #[.slice none 0 0,.slice none 0 0] 45))).trans (hb1.mono Zs));have hN:=KL (aj hb1 (aB (w:=World.alloc (World.alloc w _) _) (k:=w.heap.size+1+1) (.cells #[.slice none 0 0,.slice none 0 0] 45) (by simp)) (by simp));have I:=KL (aj hb1 ((KQ (w:=World.alloc (World.alloc w _) _) (.cells #[.slice none 0 0,.slice none 0 0] 45) (w.heap.size+1) (by simp)).trans (aB (w:=World.alloc w _) (k:=w.heap.size+1) (.cells #[.int .i64 id,.int .i64 1,.int .i64 bk,.int .i64 wt,.int .i64 E] 176) (by simp))) Zs);have aL:=KL K1;have b4:=K1.hB;have br:=K1.lt;simp at b4;clear K1 hb1
 have d0:=ae I.out 0;have d1:=ae I.out 1;have d2:=ae I.out 2;have d3:=ae I.out 3;have d4:=ae I.out 4;simp at d0 d1 d2 d3 d4
 go_wp2_with fail;refine (eR _ _ _ _ _ _ _ HQ.out).mono ?_;rintro e w2 ⟨rfl,hb2⟩
 have B2:=KL (B1.out.trans (hb2.mono B1.out.size));have lN:=lt_of_block hN.out;have a5:=KL (aj hb2 hN.out lN);have a2:=KL (aj hb2 I.out (lt_of_block I.out));have J:=KL (aL.out.below hb2);have s2:=hb2.size;clear hb2 d0 d1 d2 d3 d4;have p0:=ae J.out.hh 0;have p1:=ae J.out.hh 1;have bs:=J.out.lt;have a6:=ae a2.out 0;have b6:=lt_of_block a2.out;simp at p0 p1 a6
 have af:=KL J.out.r2.1
 obtain ⟨a1,b1,rfl,_⟩:=aE J.out.o1
 obtain ⟨x2,y2,rfl,_⟩:=aE J.out.o2
 go_wp2_with fail
 refine (lu 110 ⟨w.heap.size+1,0,none⟩ (fun _ _=>rfl) (kq id) _ R _ af.out (by omega) (fun x _ Y b5=>JI x _ id Y (aC b5 a6))).mono ?_
 rintro e w3 ⟨rfl,hb3⟩
 rw [HE.out]
 have K3:=KL (J.out.below hb3)
 have aF:=KL (B2.out.trans (hb3.mono B2.out.size))
 have ag:=KL (aj hb3 a5.out (lt_of_block a5.out))
 have z:=aj hb3 a2.out b6
 have s3:=hb3.size
 have av:=ae z 0
 have aw:=ae z 1
 have ax:=ae z 2
 have ay:=ae z 3
 have aA:=ae z 4
 have bc:=az z 3
 have bd:=az z 4
 have bn:=lt_of_block ag.out
 have bq:=lt_of_block z
 simp at av aw ax ay aA
 have ar:=ae K3.out.hh 0
 have au:=ae K3.out.hh 1
 have bt:=K3.out.lt
 simp at ar au
 have ne1:w.heap.size+1+1≠p:=by omega
 have b8:w.heap.size+1≠p:=by omega
 have aH:=KL z
 clear hb3 p0 p1 a6 a2 af z hN I a5
 obtain ⟨B,aT⟩:∃ B,B=w.heap.size+1+1+1:=⟨_,rfl⟩
 have HJ:Hid (∀ W,BkAt (w.heap.size+1+1+1) W p (.slice a1 L.length b1) (.slice x2 R.length y2) L R->Calls prog 111 #[.pointer (some ⟨p,0,none⟩),.agg #[.int .i64 id,.int .i64 1,.int .i64 bk,.int .i64 wt,.int .i64 E]] W (iX (w.heap.size+1+1+1) W p (.slice x2 R.length y2) L' R ans)):=fun W hW=>Ct _ p _ _ L R id 1 bk wt E L' ans W hW aS HA.out
 have a4:Hid (BkAt (w.heap.size+1+1+1) w3 p (.slice a1 L.length b1) (.slice x2 R.length y2) L R):=by have:=K3.out;simp only [World.size_alloc] at this;exact this
 rw [<- aT] at HJ a4
 go_wp2_with fail
 refine (HJ.out _ a4.out).mono ?_
 rintro e w4 ⟨rfl,⟨bf,Z⟩,hb4⟩
 have lB:B<=w3.heap.size:=by have:=a4.out.hB;omega
 have a0:=aj hb4 aH.out (by omega)
 have ak:=aj hb4 ag.out (by omega)
 have BZ:=KL ((aF.out.trans (hb4.mono (by omega))).setCell (p:=⟨w.heap.size+1,4,none⟩) (by show _<=w.heap.size+1;omega) (.int .i64 ans))
 have q4:=ae a0 4
 have bb:=az a0 4
 simp at q4
 have b7:=lt_of_block a0
 have U:=aR (j:=4) a0 (.int .i64 ans)
 have hNz:=aY (j:=4) (u:=.int .i64 ans) ak (show w.heap.size+1+1≠w.heap.size+1 by omega)
 have KZ:Hid (BkO B (w4.setCell ⟨w.heap.size+1,4,none⟩ (.int .i64 ans)) p bf (.slice x2 R.length y2) L' R):=⟨Z.hB,aY Z.hh (Ne.symm b8),ownsRow_setCell_below Z.o1 (by show w.heap.size+1<B;omega) _,ownsRow_setCell_below Z.o2 (by show w.heap.size+1<B;omega) _⟩
 have lz:=hb4.size
 clear hb4 ak av aw ax ay aA bc bd ar au
 go_wp2_with fail
 generalize w4.setCell ⟨w.heap.size+1,4,none⟩ (.int .i64 ans)=wz at BZ KZ U hNz ⊢
 have e0:=ae U 0
 have e1':=ae U 1
 have e2:=ae U 2
 have e3:=ae U 3
 have e4:=ae U 4
 have bu:=lt_of_block U
 have bp:=lt_of_block hNz
 simp at e0 e1' e2 e3 e4
 have bh:=KZ.out.hB
 clear Z a0 q4 bb b7 lz
 obtain ⟨x1,y1,rfl,_⟩:=aE KZ.out.o1
 have b9:=ae KZ.out.hh 0
 have ba:=ae KZ.out.hh 1
 have bv:=az KZ.out.hh 1
 have lpz:=KZ.out.lt
 simp at b9 ba
 have ad:Hid (((wz.drew).alloc (.cells #[.int .i64 id,.int .i64 1,.int .i64 bk,.int .i64 wt,.int .i64 ans] 176)).ownsRow B 176 5 (.slice x2 R.length y2) R.length (R.map Rq.cells).flatten):=bF KZ.out.o2 (((KM wz.heap.size wz).drew).alloc (KY _) _)
 have ab:Hid (∀ j u,(Rq.cells ⟨id,1,bk,wt,ans⟩)[j]?=some u->((wz.drew).alloc (.cells #[.int .i64 id,.int .i64 1,.int .i64 bk,.int .i64 wt,.int .i64 ans] 176)).cell? ((⟨wz.heap.size,0,none⟩:Addr).add j)=some u):=kJ (w:=wz.drew) (Rq.cells ⟨id,1,bk,wt,ans⟩) 176
 have ac:Hid (∀ u∈Rq.cells ⟨id,1,bk,wt,ans⟩,u.oneCell'=true):=by intro u hu;simp [Rq.cells] at hu;rcases hu with rfl|rfl|rfl|rfl|rfl<;>rfl
 have a8:Hid (R.length+1<=maxLen):=by show _<=_;unfold maxLen;omega
 have a9:Hid ((R.length+1)*40<=140737488355328):=by show _<=_;omega
 have aa:Hid (B<=((wz.drew).alloc (.cells #[.int .i64 id,.int .i64 1,.int .i64 bk,.int .i64 wt,.int .i64 ans] 176)).heap.size):=by show B<=_;simp;omega
 have a7:Hid (∀ v' w6,w6.ownsRow B 176 5 v' (R.length+1) ((R.map Rq.cells).flatten++Rq.cells ⟨id,1,bk,wt,ans⟩)->((wz.drew).alloc (.cells #[.int .i64 id,.int .i64 1,.int .i64 bk,.int .i64 wt,.int .i64 ans] 176)).grownBy w6 (Value.slice x2 R.length y2).ownBlock->Hid (w6.cell? ⟨w.heap.size+1,0,none⟩=some (.int .i64 id)/\w6.cell? ⟨w.heap.size+1,1,none⟩=some (.int .i64 1)/\w6.cell? ⟨w.heap.size+1,2,none⟩=some (.int .i64 bk)/\w6.cell? ⟨w.heap.size+1,3,none⟩=some (.int .i64 wt)/\w6.cell? ⟨w.heap.size+1,4,none⟩=some (.int .i64 ans))/\Hid (w6.cell? ⟨p,1,none⟩=some (.slice x2 R.length y2)/\w6.frozen? ⟨p,1,none⟩=false/\w6.heap[p]?=some (.cells #[.slice x1 L'.length y1,.slice x2 R.length y2] 259 (0,0))/\w6.ownsRow B 173 6 (.slice x1 L'.length y1) L'.length (L'.map Lf.cells).flatten/\w6.ownsRow B 176 5 v' (R.length+1) ((R++[Rq.mk id 1 bk wt ans]).map Rq.cells).flatten/\w6.heap[w.heap.size+1+1]?=some (.cells #[.slice none 0 0,.slice none 0 0] 45 (0,0))/\Below w.heap.size w w6)):=by
  exact Q20
 go_wp2_with fail
 refine wp_region_noPanic ?_
 refine wp_region_held_drew (S:=fun Y=>Y.cell? ⟨w.heap.size+1,0,none⟩=some (.int .i64 id)/\Y.cell? ⟨w.heap.size+1,1,none⟩=some (.int .i64 1)/\Y.cell? ⟨w.heap.size+1,2,none⟩=some (.int .i64 bk)/\Y.cell? ⟨w.heap.size+1,3,none⟩=some (.int .i64 wt)/\Y.cell? ⟨w.heap.size+1,4,none⟩=some (.int .i64 ans)) (by kernel_rfl) ?hb (fun hHeld=>?_)
 case hb=>exact ⟨e0,e1',e2,e3,e4⟩
 refine eY 0 ?_;refine Zt 4 ?_;refine Zt 6 ?_
 refine Z2 5 7 (fun K hK=>?_) (fun K hK=>?_)
 ·skip
  go_simp;refine Zk hK (hS:=by exact hHeld) fun hHeld=>?_;clear hK K;refine Z1 7 (fun K hK=>?_);go_simp;refine Zk hK (hS:=by (obtain ⟨s0,s1,s2,s3,s4⟩:=hHeld;exact ⟨aI _ s0,aI _ s1,aI _ s2,aI _ s3,aI _ s4⟩)) fun hHeld=>?_;clear hK K;refine Z1 8 (fun K hK=>?_);rw [if_pos (by rfl)];refine wp_append_own _ _ _ 43 rfl B 176 i1 (.agg #[.int .i64 0,.int .i64 0,.int .i64 0,.int .i64 0,.int .i64 0]) 5 40 underlying43 ki al am ao rfl (by decide) (.slice x2 R.length y2) R.length (R.map Rq.cells).flatten rfl ad.out ⟨wz.heap.size,0,none⟩ 1 1 (Rq.cells ⟨id,1,bk,wt,ans⟩) rfl rfl ab.out ac.out a8.out a9.out aa.out ?_;intro v' w6 hown' hgrow _;obtain ⟨x3,y3,rfl,_⟩:=aE hown';obtain ⟨a3,HRest⟩:=a7.out _ _ hown' hgrow;have c6:=HRest.out.1;have f6:=HRest.out.2.1;refine hK.out _ _ ?as8 (fun hHeld=>?_)
  case as8=>exact a3.out
  exact Q63
 ·skip
  go_simp;refine Zk hK (hS:=by (obtain ⟨s0,s1,s2,s3,s4⟩:=hHeld;exact ⟨aI _ s0,aI _ s1,aI _ s2,aI _ s3,aI _ s4⟩)) fun hHeld=>?_;clear hK K;refine Z1 5 (fun K hK=>?_);go_simp;refine Zk hK (hS:=by exact hHeld) fun hHeld=>?_;clear hK K;refine Z1 8 (fun K hK=>?_);rw [if_pos (by rfl)];refine wp_append_own _ _ _ 43 rfl B 176 i1 (.agg #[.int .i64 0,.int .i64 0,.int .i64 0,.int .i64 0,.int .i64 0]) 5 40 underlying43 ki al am ao rfl (by decide) (.slice x2 R.length y2) R.length (R.map Rq.cells).flatten rfl ad.out ⟨wz.heap.size,0,none⟩ 1 1 (Rq.cells ⟨id,1,bk,wt,ans⟩) rfl rfl ab.out ac.out a8.out a9.out aa.out ?_;intro v' w6 hown' hgrow _;obtain ⟨x3,y3,rfl,_⟩:=aE hown';obtain ⟨a3,HRest⟩:=a7.out _ _ hown' hgrow;have c6:=HRest.out.1;have f6:=HRest.out.2.1;refine hK.out _ _ ?bs8 (fun hHeld=>?_)
  case bs8=>exact a3.out
  exact Q63
theorem pQ (vl vr:Value) (L:List Lf) (R:List Rq) (id bk wt I now drain:Int) (L':List Lf) (ans:Int) (w:World) (hl:aK w 6 vl (L.map Lf.cells)) (hr:aK w 5 vr (R.map Rq.cells)) (h:bJ L R) (hn:sC ⟨id,2,bk,wt,I⟩ now drain) (he:aU (kq id) R=-1) (hf:R.length≠100) (hA:yT L ⟨id,2,bk,0,I⟩ now drain L' ans) :
  Calls prog 69 #[.agg #[vl,vr],.agg #[.int .i64 id,.int .i64 2,.int .i64 bk,.int .i64 wt,.int .i64 I],.int .i64 now,.int .i64 drain] w (jV w L' (R++[⟨id,2,bk,0,ans⟩]) ans true 0):=by
 have HA:=KL hA
 have b5:=h.1
 have HL:=KL hl;have HR:=KL hr;have H:=KL h;have br:=h.2.1;obtain ⟨a,c,rfl,_⟩:=ap hl;obtain ⟨a',c',rfl,_⟩:=ap hr;have HQ:Hid (RqQ ⟨id,2,bk,wt,I⟩ true):=Or.inl ⟨hn.1,rfl⟩;obtain ⟨_,⟨h0,h1⟩,h2,h3⟩:=hn;clear hl hr h
 have HE:=KL he
 have bt:((R.length:Int) == 100)=false:=by rw [beq_eq_false_iff_ne];omega
 have bs:R.length<=99:=by omega
 obtain ⟨i1,ki,au,av,aw⟩:=info_parts Br
 clear he hf hA
 go_in
 go_wp2_with fail;refine (cV _ _ L R _ (ai (ai (ai HL.out _) _) _) (ai (ai (ai HR.out _) _) _) H.out).mono ?_;rintro e w1 ⟨p,v1,v2,rfl,K1,hb1⟩
 have B1:=KL ((((((KM w.heap.size w).alloc (KY _) (.cells #[.slice a L.length c,.slice a' R.length c'] 45)).alloc (by simp) (.cells #[.int .i64 id,.int .i64 2,.int .i64 bk,.int .i64 wt,.int .i64 I] 176)).alloc Zs (.cells #[.slice none 0 0,.slice none 0 0] 45))).trans (hb1.mono Zs));have hN:=KL (aj hb1 (aB (w:=World.alloc (World.alloc w _) _) (k:=w.heap.size+1+1) (.cells #[.slice none 0 0,.slice none 0 0] 45) (by simp)) (by simp));have J:=KL (aj hb1 ((KQ (w:=World.alloc (World.alloc w _) _) (.cells #[.slice none 0 0,.slice none 0 0] 45) (w.heap.size+1) (by simp)).trans (aB (w:=World.alloc w _) (k:=w.heap.size+1) (.cells #[.int .i64 id,.int .i64 2,.int .i64 bk,.int .i64 wt,.int .i64 I] 176) (by simp))) Zs);have b4:=KL K1;have b7:=K1.hB;have bw:=K1.lt;simp at b7;clear K1 hb1
 have d0:=ae J.out 0;have d1:=ae J.out 1;have d2:=ae J.out 2;have d3:=ae J.out 3;have d4:=ae J.out 4;simp at d0 d1 d2 d3 d4
 go_wp2_with fail;refine (eR _ _ _ _ _ _ _ HQ.out).mono ?_;rintro e w2 ⟨rfl,hb2⟩
 have B2:=KL (B1.out.trans (hb2.mono B1.out.size));have lN:=lt_of_block hN.out;have a5:=KL (aj hb2 hN.out lN);have a3:=KL (aj hb2 J.out (lt_of_block J.out));have U:=KL (b4.out.below hb2);have s2:=hb2.size;clear hb2 d0 d1 d2 d3 d4;have p0:=ae U.out.hh 0;have p1:=ae U.out.hh 1;have bx:=U.out.lt;have a7:=ae a3.out 0;have bd:=lt_of_block a3.out;simp at p0 p1 a7
 have ao:=KL U.out.r2.1
 obtain ⟨a1,b1,rfl,_⟩:=aE U.out.o1
 obtain ⟨x2,y2,rfl,_⟩:=aE U.out.o2
 go_wp2_with fail
 refine (lu 110 ⟨w.heap.size+1,0,none⟩ (fun _ _=>rfl) (kq id) _ R _ ao.out (by omega) (fun x _ Z b8=>JI x _ id Z (aC b8 a7))).mono ?_
 rintro e w3 ⟨rfl,hb3⟩
 rw [HE.out]
 have K3:=KL (U.out.below hb3)
 have a8:=KL (B2.out.trans (hb3.mono B2.out.size))
 have a6:=KL (aj hb3 a5.out (lt_of_block a5.out))
 have E:=aj hb3 a3.out bd
 have s3:=hb3.size
 have aF:=ae E 0
 have aH:=ae E 1
 have aL:=ae E 2
 have aS:=ae E 3
 have aT:=ae E 4
 have bm:=az E 3
 have bn:=az E 4
 have ba:=lt_of_block a6.out
 have bb:=lt_of_block E
 simp at aF aH aL aS aT
 have ay:=ae K3.out.hh 0
 have aA:=ae K3.out.hh 1
 have bc:=K3.out.lt
 simp at ay aA
 have ne1:w.heap.size+1+1≠p:=by omega
 have ax:w.heap.size+1≠p:=by omega
 have al:=KL E
 clear hb3 p0 p1 a7 a3 ao E hN J a5
 obtain ⟨B,b6⟩:∃ B,B=w.heap.size+1+1+1:=⟨_,rfl⟩
 have HJ:Hid (∀ W,BkAt (w.heap.size+1+1+1) W p (.slice a1 L.length b1) (.slice x2 R.length y2) L R->Calls prog 112 #[.pointer (some ⟨p,0,none⟩),.agg #[.int .i64 id,.int .i64 2,.int .i64 bk,.int .i64 0,.int .i64 I],.int .i64 now,.int .i64 drain] W (iX (w.heap.size+1+1+1) W p (.slice x2 R.length y2) L' R ans)):=fun W hW=>wY _ p _ _ L R id 2 bk 0 I now drain L' ans W hW b5 ⟨⟨h0,h1⟩,h2,h3⟩ HA.out
 have z:Hid (BkAt (w.heap.size+1+1+1) w3 p (.slice a1 L.length b1) (.slice x2 R.length y2) L R):=by have:=K3.out;simp only [World.size_alloc] at this;exact this
 rw [<- b6] at HJ z
 have b9:B<=w3.heap.size:=by have:=z.out.hB;omega
 have BW:=KL ((a8.out).setCell (p:=⟨w.heap.size+1,3,none⟩) (by show _<=w.heap.size+1;omega) (.int .i64 0))
 have am:=KL (aR (j:=3) al.out (.int .i64 0))
 have af:=KL (aY (j:=3) (u:=.int .i64 0) a6.out (show w.heap.size+1+1≠w.heap.size+1 by omega))
 have a2:Hid (BkAt B (w3.setCell ⟨w.heap.size+1,3,none⟩ (.int .i64 0)) p (.slice a1 L.length b1) (.slice x2 R.length y2) L R):=⟨z.out.hB,aY z.out.hh (Ne.symm ax),ownsRow_setCell_below z.out.o1 (by show w.heap.size+1<B;omega) _,ownsRow_setCell_below z.out.o2 (by show w.heap.size+1<B;omega) _,z.out.l1,z.out.l2,z.out.dis⟩
 go_wp2_with fail
 refine (HJ.out _ a2.out).mono ?_
 generalize w3.setCell ⟨w.heap.size+1,3,none⟩ (.int .i64 0)=ww at BW am af a2 ⊢
 have bu:B<=ww.heap.size:=by have:=a2.out.hB;have:=a2.out.lt;omega
 clear K3 a8 a6 z al s3 ba bb bc b9 aF aH aL aS aT bm bn ay aA
 rintro e w4 ⟨rfl,⟨bp,hO⟩,hb4⟩
 have a0:=aj hb4 am.out (by omega)
 have ar:=aj hb4 af.out (by omega)
 have BZ:=KL ((BW.out.trans (hb4.mono (by omega))).setCell (p:=⟨w.heap.size+1,4,none⟩) (by show _<=w.heap.size+1;omega) (.int .i64 ans))
 have q4:=ae a0 4
 have bj:=az a0 4
 simp at q4
 have bf:=lt_of_block a0
 have Y:=aR (j:=4) a0 (.int .i64 ans)
 have hNz:=aY (j:=4) (u:=.int .i64 ans) ar (show w.heap.size+1+1≠w.heap.size+1 by omega)
 have KZ:Hid (BkO B (w4.setCell ⟨w.heap.size+1,4,none⟩ (.int .i64 ans)) p bp (.slice x2 R.length y2) L' R):=⟨hO.hB,aY hO.hh (Ne.symm ax),ownsRow_setCell_below hO.o1 (by show w.heap.size+1<B;omega) _,ownsRow_setCell_below hO.o2 (by show w.heap.size+1<B;omega) _⟩
 have lz:=hb4.size
 clear hb4 ar
 go_wp2_with fail
 generalize w4.setCell ⟨w.heap.size+1,4,none⟩ (.int .i64 ans)=wz at BZ KZ Y hNz ⊢
 have e0:=ae Y 0
 have e1':=ae Y 1
 have e2:=ae Y 2
 have e3:=ae Y 3
 have e4:=ae Y 4
 have bz:=lt_of_block Y
 have bv:=lt_of_block hNz
 simp at e0 e1' e2 e3 e4
 have bq:=KZ.out.hB
 clear hO a0 q4 bj bf lz
 obtain ⟨x1,y1,rfl,_⟩:=aE KZ.out.o1
 have bh:=ae KZ.out.hh 0
 have bi:=ae KZ.out.hh 1
 have bC:=az KZ.out.hh 1
 have lpz:=KZ.out.lt
 simp at bh bi
 have ak:Hid (((wz.drew).alloc (.cells #[.int .i64 id,.int .i64 2,.int .i64 bk,.int .i64 0,.int .i64 ans] 176)).ownsRow B 176 5 (.slice x2 R.length y2) R.length (R.map Rq.cells).flatten):=bF KZ.out.o2 (((KM wz.heap.size wz).drew).alloc (KY _) _)
 have ad:Hid (∀ j u,(Rq.cells ⟨id,2,bk,0,ans⟩)[j]?=some u->((wz.drew).alloc (.cells #[.int .i64 id,.int .i64 2,.int .i64 bk,.int .i64 0,.int .i64 ans] 176)).cell? ((⟨wz.heap.size,0,none⟩:Addr).add j)=some u):=kJ (w:=wz.drew) (Rq.cells ⟨id,2,bk,0,ans⟩) 176
 have ag:Hid (∀ u∈Rq.cells ⟨id,2,bk,0,ans⟩,u.oneCell'=true):=by intro u hu;simp [Rq.cells] at hu;rcases hu with rfl|rfl|rfl|rfl|rfl<;>rfl
 have aa:Hid (R.length+1<=maxLen):=by show _<=_;unfold maxLen;omega
 have ab:Hid ((R.length+1)*40<=140737488355328):=by show _<=_;omega
 have ac:Hid (B<=((wz.drew).alloc (.cells #[.int .i64 id,.int .i64 2,.int .i64 bk,.int .i64 0,.int .i64 ans] 176)).heap.size):=by show B<=_;simp;omega
 have a9:Hid (∀ v' w6,w6.ownsRow B 176 5 v' (R.length+1) ((R.map Rq.cells).flatten++Rq.cells ⟨id,2,bk,0,ans⟩)->((wz.drew).alloc (.cells #[.int .i64 id,.int .i64 2,.int .i64 bk,.int .i64 0,.int .i64 ans] 176)).grownBy w6 (Value.slice x2 R.length y2).ownBlock->Hid (w6.cell? ⟨w.heap.size+1,0,none⟩=some (.int .i64 id)/\w6.cell? ⟨w.heap.size+1,1,none⟩=some (.int .i64 2)/\w6.cell? ⟨w.heap.size+1,2,none⟩=some (.int .i64 bk)/\w6.cell? ⟨w.heap.size+1,3,none⟩=some (.int .i64 0)/\w6.cell? ⟨w.heap.size+1,4,none⟩=some (.int .i64 ans))/\Hid (w6.cell? ⟨p,1,none⟩=some (.slice x2 R.length y2)/\w6.frozen? ⟨p,1,none⟩=false/\w6.heap[p]?=some (.cells #[.slice x1 L'.length y1,.slice x2 R.length y2] 259 (0,0))/\w6.ownsRow B 173 6 (.slice x1 L'.length y1) L'.length (L'.map Lf.cells).flatten/\w6.ownsRow B 176 5 v' (R.length+1) ((R++[Rq.mk id 2 bk 0 ans]).map Rq.cells).flatten/\w6.heap[w.heap.size+1+1]?=some (.cells #[.slice none 0 0,.slice none 0 0] 45 (0,0))/\Below w.heap.size w w6)):=by
  exact Q20
 go_wp2_with fail
 refine wp_region_noPanic ?_
 refine wp_region_held_drew (S:=fun Z=>Z.cell? ⟨w.heap.size+1,0,none⟩=some (.int .i64 id)/\Z.cell? ⟨w.heap.size+1,1,none⟩=some (.int .i64 2)/\Z.cell? ⟨w.heap.size+1,2,none⟩=some (.int .i64 bk)/\Z.cell? ⟨w.heap.size+1,3,none⟩=some (.int .i64 0)/\Z.cell? ⟨w.heap.size+1,4,none⟩=some (.int .i64 ans)) (by kernel_rfl) ?hb (fun hHeld=>?_)
 case hb=>exact ⟨e0,e1',e2,e3,e4⟩
 refine eY 0 ?_;refine Zt 4 ?_;refine Zt 6 ?_
 refine Z2 5 7 (fun K hK=>?_) (fun K hK=>?_)
 ·skip
  go_simp;refine Zk hK (hS:=by exact hHeld) fun hHeld=>?_;clear hK K;refine Z1 7 (fun K hK=>?_);go_simp;refine Zk hK (hS:=by (obtain ⟨s0,s1,s2,s3,s4⟩:=hHeld;exact ⟨aI _ s0,aI _ s1,aI _ s2,aI _ s3,aI _ s4⟩)) fun hHeld=>?_;clear hK K;refine Z1 8 (fun K hK=>?_);rw [if_pos (by rfl)];refine wp_append_own _ _ _ 43 rfl B 176 i1 (.agg #[.int .i64 0,.int .i64 0,.int .i64 0,.int .i64 0,.int .i64 0]) 5 40 underlying43 ki au av aw rfl (by decide) (.slice x2 R.length y2) R.length (R.map Rq.cells).flatten rfl ak.out ⟨wz.heap.size,0,none⟩ 1 1 (Rq.cells ⟨id,2,bk,0,ans⟩) rfl rfl ad.out ag.out aa.out ab.out ac.out ?_;intro v' w6 hown' hgrow _;obtain ⟨x3,y3,rfl,_⟩:=aE hown';obtain ⟨a4,HRest⟩:=a9.out _ _ hown' hgrow;have c6:=HRest.out.1;have f6:=HRest.out.2.1;refine hK.out _ _ ?as8 (fun hHeld=>?_)
  case as8=>exact a4.out
  exact Q64
 ·skip
  go_simp;refine Zk hK (hS:=by (obtain ⟨s0,s1,s2,s3,s4⟩:=hHeld;exact ⟨aI _ s0,aI _ s1,aI _ s2,aI _ s3,aI _ s4⟩)) fun hHeld=>?_;clear hK K;refine Z1 5 (fun K hK=>?_);go_simp;refine Zk hK (hS:=by exact hHeld) fun hHeld=>?_;clear hK K;refine Z1 8 (fun K hK=>?_);rw [if_pos (by rfl)];refine wp_append_own _ _ _ 43 rfl B 176 i1 (.agg #[.int .i64 0,.int .i64 0,.int .i64 0,.int .i64 0,.int .i64 0]) 5 40 underlying43 ki au av aw rfl (by decide) (.slice x2 R.length y2) R.length (R.map Rq.cells).flatten rfl ak.out ⟨wz.heap.size,0,none⟩ 1 1 (Rq.cells ⟨id,2,bk,0,ans⟩) rfl rfl ad.out ag.out aa.out ab.out ac.out ?_;intro v' w6 hown' hgrow _;obtain ⟨x3,y3,rfl,_⟩:=aE hown';obtain ⟨a4,HRest⟩:=a9.out _ _ hown' hgrow;have c6:=HRest.out.1;have f6:=HRest.out.2.1;refine hK.out _ _ ?bs8 (fun hHeld=>?_)
  case bs8=>exact a4.out
  exact Q64
theorem jI (vl vr:Value) (L:List Lf) (R:List Rq) (id kd bk wt an now drain:Int) (L':List Lf) (R':List Rq) (ans:Int) (nw:Bool) (code:Int) (w:World) (hl:aK w 6 vl (L.map Lf.cells)) (hr:aK w 5 vr (R.map Rq.cells)) (h:I6 L R ⟨id,kd,bk,wt,an⟩ now drain L' R' ans nw code) :
  Calls prog 69 #[.agg #[vl,vr],.agg #[.int .i64 id,.int .i64 kd,.int .i64 bk,.int .i64 wt,.int .i64 an],.int .i64 now,.int .i64 drain] w (jV w L' R' ans nw code):=by
 rcases h with ⟨h1,rfl,rfl,rfl,rfl,rfl⟩|⟨h1,h2,rfl,rfl,rfl,rfl,rfl⟩|⟨h1,h2,hg,rfl⟩
 ·exact rm vl vr L R id kd bk wt an now drain w hl hr h1
 ·exact rp vl vr L R id kd bk wt an now drain w hl hr h1 h2
 ·rcases hg with ⟨q,hq,he,rfl,rfl,rfl,rfl⟩|⟨he,⟨hf,rfl,rfl,rfl,rfl⟩|⟨hf,rfl,⟨hk,hA,rfl⟩|⟨hk,hA,rfl⟩⟩⟩
  ·exact uO vl vr _ _ id kd bk wt an now drain q w hl hr h1 h2 hq he
  ·exact sQ vl vr _ _ id kd bk wt an now drain w hl hr h1 h2 he hf
  ·simp only at hk;subst hk;exact sP vl vr L R id bk wt an now drain L' ans w hl hr h1 h2 he hf hA
  ·simp only at hk;subst hk;exact pQ vl vr L R id bk wt an now drain L' ans w hl hr h1 h2 he hf hA
end
end Go.Proofs.YtennppmadmgfoaaGreatDoor
