/- Texts of the row's proof. Conditions: none. -/
import Derived.Test.YtfliffgmeobclaaGreatK21
namespace Go.Proofs.YtfliffgmeobclaaGreat
set_option maxRecDepth 100000
set_option maxHeartbeats 8000000
section
open Go.RowKit
theorem rA (vl vr:Value) (L:List Lf) (R:List Rq) (id bk wt an now drain:Int) (L':List Lf) (ans:Int) (w:World) (hl:aI w 6 vl (L.map Lf.cells)) (hr:aI w 5 vr (R.map Rq.cells)) (h:bF L R) (hn:rh ⟨id,1,bk,wt,an⟩ now drain) (he:aQ (jW id) R=-1) (hf:R.length≠100) (hA:xt L ⟨id,1,bk,wt,an⟩ L' ans) :
  Calls Tryz.prog 65 #[.agg #[vl,vr],.agg #[.int .i64 id,.int .i64 1,.int .i64 bk,.int .i64 wt,.int .i64 an],.int .i64 now,.int .i64 drain] w (jK w L' (R++[⟨id,1,bk,wt,ans⟩]) ans true 0):=by
 have HA:=Hu hA
 have h12:=h.1
 have HL:=Hu hl;have HR:=Hu hr;have H:=Hu h;have hR100:=h.2.1;obtain ⟨a,c,rfl,_⟩:=aq hl;obtain ⟨a',c',rfl,_⟩:=aq hr;have HQ:Hid (RqQ ⟨id,1,bk,wt,an⟩ true):=Or.inl ⟨hn.1,rfl⟩;obtain ⟨_,⟨h0,h1⟩,h2,h3⟩:=hn;clear hl hr h
 have HE:=Hu he
 have hfe:((R.length:Int) == 100)=false:=by rw [beq_eq_false_iff_ne];omega
 have hR99:R.length≤99:=by omega
 obtain ⟨i1,ki,ki0,ki1,ki2⟩:=info_parts zB
 clear he hf hA
 go_enter Tryz.func65,Tryz.ntmps65
 go_wp2_with fail;refine (cP _ _ L R _ (ai (ai (ai HL.out _) _) _) (ai (ai (ai HR.out _) _) _) H.out).mono ?_;rintro e w1 ⟨p,v1,v2,rfl,K1,hb1⟩
 have B1:=Hu ((((((Hv w.heap.size w).alloc (I3 _) (.cells #[.slice a L.length c,.slice a' R.length c'] 52)).alloc (by simp) (.cells #[.int .i64 id,.int .i64 1,.int .i64 bk,.int .i64 wt,.int .i64 an] 148)).alloc Zs (.cells #[.slice none 0 0,.slice none 0 0] 52))).trans (hb1.mono Zs));have hN:=Hu (aj hb1 (az (w:=World.alloc (World.alloc w _) _) (k:=w.heap.size+1+1) (.cells #[.slice none 0 0,.slice none 0 0] 52) (by simp)) (by simp));have hR:=Hu (aj hb1 ((Hz (w:=World.alloc (World.alloc w _) _) (.cells #[.slice none 0 0,.slice none 0 0] 52) (w.heap.size+1) (by simp)).trans (az (w:=World.alloc w _) (k:=w.heap.size+1) (.cells #[.int .i64 id,.int .i64 1,.int .i64 bk,.int .i64 wt,.int .i64 an] 148) (by simp))) Zs);have K1':=Hu K1;have hBp:=K1.hB;have lp1:=K1.lt;simp at hBp;clear K1 hb1
 have d0:=ae hR.out 0;have d1:=ae hR.out 1;have d2:=ae hR.out 2;have d3:=ae hR.out 3;have d4:=ae hR.out 4;simp at d0 d1 d2 d3 d4
 go_wp2_with fail;refine (eM _ _ _ _ _ _ _ HQ.out).mono ?_;rintro e w2 ⟨rfl,hb2⟩
 have B2:=Hu (B1.out.trans (hb2.mono B1.out.size));have lN:=lt_of_block hN.out;have hN2:=Hu (aj hb2 hN.out lN);have hR2:=Hu (aj hb2 hR.out (lt_of_block hR.out));have K2:=Hu (K1'.out.below hb2);have s2:=hb2.size;clear hb2 d0 d1 d2 d3 d4;have p0:=ae K2.out.hh 0;have p1:=ae K2.out.hh 1;have lp2:=K2.out.lt;have r20:=ae hR2.out 0;have lr2:=lt_of_block hR2.out;simp at p0 p1 r20
 have RR2:=Hu K2.out.r2.1
 obtain ⟨a1,b1,rfl,_⟩:=aC K2.out.o1
 obtain ⟨x2,y2,rfl,_⟩:=aC K2.out.o2
 go_wp2_with fail
 refine (kO 106 ⟨w.heap.size+1,0,none⟩ (fun _ _=>rfl) (jW id) _ R _ RR2.out (by omega) (fun x _ w' hb'=>Gz x _ id w' (aA hb' r20))).mono ?_
 rintro e w3 ⟨rfl,hb3⟩
 rw [HE.out]
 have K3:=Hu (K2.out.below hb3)
 have B3':=Hu (B2.out.trans (hb3.mono B2.out.size))
 have hN3:=Hu (aj hb3 hN2.out (lt_of_block hN2.out))
 have hR3:=aj hb3 hR2.out lr2
 have s3:=hb3.size
 have r30:=ae hR3 0
 have r31:=ae hR3 1
 have r32:=ae hR3 2
 have r33:=ae hR3 3
 have r34:=ae hR3 4
 have rf3:=ap hR3 3
 have rf4:=ap hR3 4
 have lN3:=lt_of_block hN3.out
 have lR3:=lt_of_block hR3
 simp at r30 r31 r32 r33 r34
 have p30:=ae K3.out.hh 0
 have p31:=ae K3.out.hh 1
 have lp3:=K3.out.lt
 simp at p30 p31
 have ne1:w.heap.size+1+1≠p:=by omega
 have ne3:w.heap.size+1≠p:=by omega
 have HR3:=Hu hR3
 clear hb3 p0 p1 r20 hR2 RR2 hR3 hN hR hN2
 obtain ⟨B,hBd⟩:∃ B,B=w.heap.size+1+1+1:=⟨_,rfl⟩
 have HJ:Hid (∀ W,BkAt (w.heap.size+1+1+1) W p (.slice a1 L.length b1) (.slice x2 R.length y2) L R→Calls Tryz.prog 107 #[.pointer (some ⟨p,0,none⟩),.agg #[.int .i64 id,.int .i64 1,.int .i64 bk,.int .i64 wt,.int .i64 an]] W (iP (w.heap.size+1+1+1) W p (.slice x2 R.length y2) L' R ans)):=fun W hW=>Ar _ p _ _ L R id 1 bk wt an L' ans W hW h12 HA.out
 have K3s:Hid (BkAt (w.heap.size+1+1+1) w3 p (.slice a1 L.length b1) (.slice x2 R.length y2) L R):=by have:=K3.out;simp only [World.size_alloc] at this;exact this
 rw [← hBd] at HJ K3s
 go_wp2_with fail
 refine (HJ.out _ K3s.out).mono ?_
 rintro e w4 ⟨rfl,⟨v1',hO⟩,hb4⟩
 have lB:B≤w3.heap.size:=by have:=K3s.out.hB;omega
 have hr4:=aj hb4 HR3.out (by omega)
 have hN4:=aj hb4 hN3.out (by omega)
 have BZ:=Hu ((B3'.out.trans (hb4.mono (by omega))).setCell (p:=⟨w.heap.size+1,4,none⟩) (by show _≤w.heap.size+1;omega) (.int .i64 ans))
 have q4:=ae hr4 4
 have qf4:=ap hr4 4
 simp at q4
 have lr4:=lt_of_block hr4
 have hrz:=aP (j:=4) hr4 (.int .i64 ans)
 have hNz:=aU (j:=4) (u:=.int .i64 ans) hN4 (show w.heap.size+1+1≠w.heap.size+1 by omega)
 have KZ:Hid (BkO B (w4.setCell ⟨w.heap.size+1,4,none⟩ (.int .i64 ans)) p v1' (.slice x2 R.length y2) L' R):=⟨hO.hB,aU hO.hh (Ne.symm ne3),ownsRow_setCell_below hO.o1 (by show w.heap.size+1<B;omega) _,ownsRow_setCell_below hO.o2 (by show w.heap.size+1<B;omega) _⟩
 have lz:=hb4.size
 clear hb4 hN4 r30 r31 r32 r33 r34 rf3 rf4 p30 p31
 go_wp2_with fail
 generalize w4.setCell ⟨w.heap.size+1,4,none⟩ (.int .i64 ans)=wz at BZ KZ hrz hNz ⊢
 have e0:=ae hrz 0
 have e1':=ae hrz 1
 have e2:=ae hrz 2
 have e3:=ae hrz 3
 have e4:=ae hrz 4
 have lrz:=lt_of_block hrz
 have lNz:=lt_of_block hNz
 simp at e0 e1' e2 e3 e4
 have hBp2:=KZ.out.hB
 clear hO hr4 q4 qf4 lr4 lz
 obtain ⟨x1,y1,rfl,_⟩:=aC KZ.out.o1
 have p50:=ae KZ.out.hh 0
 have p51:=ae KZ.out.hh 1
 have pf51:=ap KZ.out.hh 1
 have lpz:=KZ.out.lt
 simp at p50 p51
 have HOW:Hid (((wz.drew).alloc (.cells #[.int .i64 id,.int .i64 1,.int .i64 bk,.int .i64 wt,.int .i64 ans] 148)).ownsRow B 148 5 (.slice x2 R.length y2) R.length (R.map Rq.cells).flatten):=bA KZ.out.o2 (((Hv wz.heap.size wz).drew).alloc (I3 _) _)
 have HNW:Hid (∀ j u,(Rq.cells ⟨id,1,bk,wt,ans⟩)[j]?=some u→((wz.drew).alloc (.cells #[.int .i64 id,.int .i64 1,.int .i64 bk,.int .i64 wt,.int .i64 ans] 148)).cell? ((⟨wz.heap.size,0,none⟩:Addr).add j)=some u):=ko (w:=wz.drew) (Rq.cells ⟨id,1,bk,wt,ans⟩) 148
 have HON:Hid (∀ u∈Rq.cells ⟨id,1,bk,wt,ans⟩,u.oneCell'=true):=by intro u hu;simp [Rq.cells] at hu;rcases hu with rfl|rfl|rfl|rfl|rfl<;>rfl
 have HL1:Hid (R.length+1≤maxLen):=by show _≤_;unfold maxLen;omega
 have HL2:Hid ((R.length+1)*40≤140737488355328):=by show _≤_;omega
 have HL3:Hid (B≤((wz.drew).alloc (.cells #[.int .i64 id,.int .i64 1,.int .i64 bk,.int .i64 wt,.int .i64 ans] 148)).heap.size):=by show B≤_;simp;omega
 have HAft:Hid (∀ v' w6,w6.ownsRow B 148 5 v' (R.length+1) ((R.map Rq.cells).flatten++Rq.cells ⟨id,1,bk,wt,ans⟩)→((wz.drew).alloc (.cells #[.int .i64 id,.int .i64 1,.int .i64 bk,.int .i64 wt,.int .i64 ans] 148)).grownBy w6 (Value.slice x2 R.length y2).ownBlock→Hid (w6.cell? ⟨w.heap.size+1,0,none⟩=some (.int .i64 id)∧w6.cell? ⟨w.heap.size+1,1,none⟩=some (.int .i64 1)∧w6.cell? ⟨w.heap.size+1,2,none⟩=some (.int .i64 bk)∧w6.cell? ⟨w.heap.size+1,3,none⟩=some (.int .i64 wt)∧w6.cell? ⟨w.heap.size+1,4,none⟩=some (.int .i64 ans))∧Hid (w6.cell? ⟨p,1,none⟩=some (.slice x2 R.length y2)∧w6.frozen? ⟨p,1,none⟩=false∧w6.heap[p]?=some (.cells #[.slice x1 L'.length y1,.slice x2 R.length y2] 223 (0,0))∧w6.ownsRow B 94 6 (.slice x1 L'.length y1) L'.length (L'.map Lf.cells).flatten∧w6.ownsRow B 148 5 v' (R.length+1) ((R++[Rq.mk id 1 bk wt ans]).map Rq.cells).flatten∧w6.heap[w.heap.size+1+1]?=some (.cells #[.slice none 0 0,.slice none 0 0] 52 (0,0))∧Below w.heap.size w w6)):=by
  exact Q21
 go_wp2_with fail
 refine wp_region_noPanic ?_
 refine wp_region_held_drew (S:=fun w'=>w'.cell? ⟨w.heap.size+1,0,none⟩=some (.int .i64 id)∧w'.cell? ⟨w.heap.size+1,1,none⟩=some (.int .i64 1)∧w'.cell? ⟨w.heap.size+1,2,none⟩=some (.int .i64 bk)∧w'.cell? ⟨w.heap.size+1,3,none⟩=some (.int .i64 wt)∧w'.cell? ⟨w.heap.size+1,4,none⟩=some (.int .i64 ans)) (by kernel_rfl) ?hb (fun hHeld=>?_)
 case hb=>exact ⟨e0,e1',e2,e3,e4⟩
 refine eP 0 ?_;refine Zt 4 ?_;refine Zt 6 ?_
 refine Z2 5 7 (fun K hK=>?_) (fun K hK=>?_)
 ·skip
  go_simp;refine Zk hK (hS:=by exact hHeld) fun hHeld=>?_;clear hK K;refine Z1 7 (fun K hK=>?_);go_simp;refine Zk hK (hS:=by (obtain ⟨s0,s1,s2,s3,s4⟩:=hHeld;exact ⟨aE _ s0,aE _ s1,aE _ s2,aE _ s3,aE _ s4⟩)) fun hHeld=>?_;clear hK K;refine Z1 8 (fun K hK=>?_);rw [if_pos (by rfl)];refine wp_append_own _ _ _ 50 rfl B 148 i1 (.agg #[.int .i64 0,.int .i64 0,.int .i64 0,.int .i64 0,.int .i64 0]) 5 40 Tryz.underlying50 ki ki0 ki1 ki2 rfl (by decide) (.slice x2 R.length y2) R.length (R.map Rq.cells).flatten rfl HOW.out ⟨wz.heap.size,0,none⟩ 1 1 (Rq.cells ⟨id,1,bk,wt,ans⟩) rfl rfl HNW.out HON.out HL1.out HL2.out HL3.out ?_;intro v' w6 hown' hgrow _;obtain ⟨x3,y3,rfl,_⟩:=aC hown';obtain ⟨HS6,HRest⟩:=HAft.out _ _ hown' hgrow;have c6:=HRest.out.1;have f6:=HRest.out.2.1;refine hK.out _ _ ?as8 (fun hHeld=>?_)
  case as8=>exact HS6.out
  exact Q63
 ·skip
  go_simp;refine Zk hK (hS:=by (obtain ⟨s0,s1,s2,s3,s4⟩:=hHeld;exact ⟨aE _ s0,aE _ s1,aE _ s2,aE _ s3,aE _ s4⟩)) fun hHeld=>?_;clear hK K;refine Z1 5 (fun K hK=>?_);go_simp;refine Zk hK (hS:=by exact hHeld) fun hHeld=>?_;clear hK K;refine Z1 8 (fun K hK=>?_);rw [if_pos (by rfl)];refine wp_append_own _ _ _ 50 rfl B 148 i1 (.agg #[.int .i64 0,.int .i64 0,.int .i64 0,.int .i64 0,.int .i64 0]) 5 40 Tryz.underlying50 ki ki0 ki1 ki2 rfl (by decide) (.slice x2 R.length y2) R.length (R.map Rq.cells).flatten rfl HOW.out ⟨wz.heap.size,0,none⟩ 1 1 (Rq.cells ⟨id,1,bk,wt,ans⟩) rfl rfl HNW.out HON.out HL1.out HL2.out HL3.out ?_;intro v' w6 hown' hgrow _;obtain ⟨x3,y3,rfl,_⟩:=aC hown';obtain ⟨HS6,HRest⟩:=HAft.out _ _ hown' hgrow;have c6:=HRest.out.1;have f6:=HRest.out.2.1;refine hK.out _ _ ?bs8 (fun hHeld=>?_)
  case bs8=>exact HS6.out
  exact Q63
theorem oM (vl vr:Value) (L:List Lf) (R:List Rq) (id bk wt an now drain:Int) (L':List Lf) (ans:Int) (w:World) (hl:aI w 6 vl (L.map Lf.cells)) (hr:aI w 5 vr (R.map Rq.cells)) (h:bF L R) (hn:rh ⟨id,2,bk,wt,an⟩ now drain) (he:aQ (jW id) R=-1) (hf:R.length≠100) (hA:xn L ⟨id,2,bk,0,an⟩ now drain L' ans) :
  Calls Tryz.prog 65 #[.agg #[vl,vr],.agg #[.int .i64 id,.int .i64 2,.int .i64 bk,.int .i64 wt,.int .i64 an],.int .i64 now,.int .i64 drain] w (jK w L' (R++[⟨id,2,bk,0,ans⟩]) ans true 0):=by
 have HA:=Hu hA
 have h12:=h.1
 have HL:=Hu hl;have HR:=Hu hr;have H:=Hu h;have hR100:=h.2.1;obtain ⟨a,c,rfl,_⟩:=aq hl;obtain ⟨a',c',rfl,_⟩:=aq hr;have HQ:Hid (RqQ ⟨id,2,bk,wt,an⟩ true):=Or.inl ⟨hn.1,rfl⟩;obtain ⟨_,⟨h0,h1⟩,h2,h3⟩:=hn;clear hl hr h
 have HE:=Hu he
 have hfe:((R.length:Int) == 100)=false:=by rw [beq_eq_false_iff_ne];omega
 have hR99:R.length≤99:=by omega
 obtain ⟨i1,ki,ki0,ki1,ki2⟩:=info_parts zB
 clear he hf hA
 go_enter Tryz.func65,Tryz.ntmps65
 go_wp2_with fail;refine (cP _ _ L R _ (ai (ai (ai HL.out _) _) _) (ai (ai (ai HR.out _) _) _) H.out).mono ?_;rintro e w1 ⟨p,v1,v2,rfl,K1,hb1⟩
 have B1:=Hu ((((((Hv w.heap.size w).alloc (I3 _) (.cells #[.slice a L.length c,.slice a' R.length c'] 52)).alloc (by simp) (.cells #[.int .i64 id,.int .i64 2,.int .i64 bk,.int .i64 wt,.int .i64 an] 148)).alloc Zs (.cells #[.slice none 0 0,.slice none 0 0] 52))).trans (hb1.mono Zs));have hN:=Hu (aj hb1 (az (w:=World.alloc (World.alloc w _) _) (k:=w.heap.size+1+1) (.cells #[.slice none 0 0,.slice none 0 0] 52) (by simp)) (by simp));have hR:=Hu (aj hb1 ((Hz (w:=World.alloc (World.alloc w _) _) (.cells #[.slice none 0 0,.slice none 0 0] 52) (w.heap.size+1) (by simp)).trans (az (w:=World.alloc w _) (k:=w.heap.size+1) (.cells #[.int .i64 id,.int .i64 2,.int .i64 bk,.int .i64 wt,.int .i64 an] 148) (by simp))) Zs);have K1':=Hu K1;have hBp:=K1.hB;have lp1:=K1.lt;simp at hBp;clear K1 hb1
 have d0:=ae hR.out 0;have d1:=ae hR.out 1;have d2:=ae hR.out 2;have d3:=ae hR.out 3;have d4:=ae hR.out 4;simp at d0 d1 d2 d3 d4
 go_wp2_with fail;refine (eM _ _ _ _ _ _ _ HQ.out).mono ?_;rintro e w2 ⟨rfl,hb2⟩
 have B2:=Hu (B1.out.trans (hb2.mono B1.out.size));have lN:=lt_of_block hN.out;have hN2:=Hu (aj hb2 hN.out lN);have hR2:=Hu (aj hb2 hR.out (lt_of_block hR.out));have K2:=Hu (K1'.out.below hb2);have s2:=hb2.size;clear hb2 d0 d1 d2 d3 d4;have p0:=ae K2.out.hh 0;have p1:=ae K2.out.hh 1;have lp2:=K2.out.lt;have r20:=ae hR2.out 0;have lr2:=lt_of_block hR2.out;simp at p0 p1 r20
 have RR2:=Hu K2.out.r2.1
 obtain ⟨a1,b1,rfl,_⟩:=aC K2.out.o1
 obtain ⟨x2,y2,rfl,_⟩:=aC K2.out.o2
 go_wp2_with fail
 refine (kO 106 ⟨w.heap.size+1,0,none⟩ (fun _ _=>rfl) (jW id) _ R _ RR2.out (by omega) (fun x _ w' hb'=>Gz x _ id w' (aA hb' r20))).mono ?_
 rintro e w3 ⟨rfl,hb3⟩
 rw [HE.out]
 have K3:=Hu (K2.out.below hb3)
 have B3':=Hu (B2.out.trans (hb3.mono B2.out.size))
 have hN3:=Hu (aj hb3 hN2.out (lt_of_block hN2.out))
 have hR3:=aj hb3 hR2.out lr2
 have s3:=hb3.size
 have r30:=ae hR3 0
 have r31:=ae hR3 1
 have r32:=ae hR3 2
 have r33:=ae hR3 3
 have r34:=ae hR3 4
 have rf3:=ap hR3 3
 have rf4:=ap hR3 4
 have lN3:=lt_of_block hN3.out
 have lR3:=lt_of_block hR3
 simp at r30 r31 r32 r33 r34
 have p30:=ae K3.out.hh 0
 have p31:=ae K3.out.hh 1
 have lp3:=K3.out.lt
 simp at p30 p31
 have ne1:w.heap.size+1+1≠p:=by omega
 have ne3:w.heap.size+1≠p:=by omega
 have HR3:=Hu hR3
 clear hb3 p0 p1 r20 hR2 RR2 hR3 hN hR hN2
 obtain ⟨B,hBd⟩:∃ B,B=w.heap.size+1+1+1:=⟨_,rfl⟩
 have HJ:Hid (∀ W,BkAt (w.heap.size+1+1+1) W p (.slice a1 L.length b1) (.slice x2 R.length y2) L R→Calls Tryz.prog 108 #[.pointer (some ⟨p,0,none⟩),.agg #[.int .i64 id,.int .i64 2,.int .i64 bk,.int .i64 0,.int .i64 an],.int .i64 now,.int .i64 drain] W (iP (w.heap.size+1+1+1) W p (.slice x2 R.length y2) L' R ans)):=fun W hW=>uW _ p _ _ L R id 2 bk 0 an now drain L' ans W hW h12 ⟨⟨h0,h1⟩,h2,h3⟩ HA.out
 have K3s:Hid (BkAt (w.heap.size+1+1+1) w3 p (.slice a1 L.length b1) (.slice x2 R.length y2) L R):=by have:=K3.out;simp only [World.size_alloc] at this;exact this
 rw [← hBd] at HJ K3s
 have lB3:B≤w3.heap.size:=by have:=K3s.out.hB;omega
 have BW:=Hu ((B3'.out).setCell (p:=⟨w.heap.size+1,3,none⟩) (by show _≤w.heap.size+1;omega) (.int .i64 0))
 have HRW:=Hu (aP (j:=3) HR3.out (.int .i64 0))
 have HNW3:=Hu (aU (j:=3) (u:=.int .i64 0) hN3.out (show w.heap.size+1+1≠w.heap.size+1 by omega))
 have K3W:Hid (BkAt B (w3.setCell ⟨w.heap.size+1,3,none⟩ (.int .i64 0)) p (.slice a1 L.length b1) (.slice x2 R.length y2) L R):=⟨K3s.out.hB,aU K3s.out.hh (Ne.symm ne3),ownsRow_setCell_below K3s.out.o1 (by show w.heap.size+1<B;omega) _,ownsRow_setCell_below K3s.out.o2 (by show w.heap.size+1<B;omega) _,K3s.out.l1,K3s.out.l2,K3s.out.dis⟩
 go_wp2_with fail
 refine (HJ.out _ K3W.out).mono ?_
 generalize w3.setCell ⟨w.heap.size+1,3,none⟩ (.int .i64 0)=ww at BW HRW HNW3 K3W ⊢
 have lBw:B≤ww.heap.size:=by have:=K3W.out.hB;have:=K3W.out.lt;omega
 clear K3 B3' hN3 K3s HR3 s3 lN3 lR3 lp3 lB3 r30 r31 r32 r33 r34 rf3 rf4 p30 p31
 rintro e w4 ⟨rfl,⟨v1',hO⟩,hb4⟩
 have hr4:=aj hb4 HRW.out (by omega)
 have hN4:=aj hb4 HNW3.out (by omega)
 have BZ:=Hu ((BW.out.trans (hb4.mono (by omega))).setCell (p:=⟨w.heap.size+1,4,none⟩) (by show _≤w.heap.size+1;omega) (.int .i64 ans))
 have q4:=ae hr4 4
 have qf4:=ap hr4 4
 simp at q4
 have lr4:=lt_of_block hr4
 have hrz:=aP (j:=4) hr4 (.int .i64 ans)
 have hNz:=aU (j:=4) (u:=.int .i64 ans) hN4 (show w.heap.size+1+1≠w.heap.size+1 by omega)
 have KZ:Hid (BkO B (w4.setCell ⟨w.heap.size+1,4,none⟩ (.int .i64 ans)) p v1' (.slice x2 R.length y2) L' R):=⟨hO.hB,aU hO.hh (Ne.symm ne3),ownsRow_setCell_below hO.o1 (by show w.heap.size+1<B;omega) _,ownsRow_setCell_below hO.o2 (by show w.heap.size+1<B;omega) _⟩
 have lz:=hb4.size
 clear hb4 hN4
 go_wp2_with fail
 generalize w4.setCell ⟨w.heap.size+1,4,none⟩ (.int .i64 ans)=wz at BZ KZ hrz hNz ⊢
 have e0:=ae hrz 0
 have e1':=ae hrz 1
 have e2:=ae hrz 2
 have e3:=ae hrz 3
 have e4:=ae hrz 4
 have lrz:=lt_of_block hrz
 have lNz:=lt_of_block hNz
 simp at e0 e1' e2 e3 e4
 have hBp2:=KZ.out.hB
 clear hO hr4 q4 qf4 lr4 lz
 obtain ⟨x1,y1,rfl,_⟩:=aC KZ.out.o1
 have p50:=ae KZ.out.hh 0
 have p51:=ae KZ.out.hh 1
 have pf51:=ap KZ.out.hh 1
 have lpz:=KZ.out.lt
 simp at p50 p51
 have HOW:Hid (((wz.drew).alloc (.cells #[.int .i64 id,.int .i64 2,.int .i64 bk,.int .i64 0,.int .i64 ans] 148)).ownsRow B 148 5 (.slice x2 R.length y2) R.length (R.map Rq.cells).flatten):=bA KZ.out.o2 (((Hv wz.heap.size wz).drew).alloc (I3 _) _)
 have HNW:Hid (∀ j u,(Rq.cells ⟨id,2,bk,0,ans⟩)[j]?=some u→((wz.drew).alloc (.cells #[.int .i64 id,.int .i64 2,.int .i64 bk,.int .i64 0,.int .i64 ans] 148)).cell? ((⟨wz.heap.size,0,none⟩:Addr).add j)=some u):=ko (w:=wz.drew) (Rq.cells ⟨id,2,bk,0,ans⟩) 148
 have HON:Hid (∀ u∈Rq.cells ⟨id,2,bk,0,ans⟩,u.oneCell'=true):=by intro u hu;simp [Rq.cells] at hu;rcases hu with rfl|rfl|rfl|rfl|rfl<;>rfl
 have HL1:Hid (R.length+1≤maxLen):=by show _≤_;unfold maxLen;omega
 have HL2:Hid ((R.length+1)*40≤140737488355328):=by show _≤_;omega
 have HL3:Hid (B≤((wz.drew).alloc (.cells #[.int .i64 id,.int .i64 2,.int .i64 bk,.int .i64 0,.int .i64 ans] 148)).heap.size):=by show B≤_;simp;omega
 have HAft:Hid (∀ v' w6,w6.ownsRow B 148 5 v' (R.length+1) ((R.map Rq.cells).flatten++Rq.cells ⟨id,2,bk,0,ans⟩)→((wz.drew).alloc (.cells #[.int .i64 id,.int .i64 2,.int .i64 bk,.int .i64 0,.int .i64 ans] 148)).grownBy w6 (Value.slice x2 R.length y2).ownBlock→Hid (w6.cell? ⟨w.heap.size+1,0,none⟩=some (.int .i64 id)∧w6.cell? ⟨w.heap.size+1,1,none⟩=some (.int .i64 2)∧w6.cell? ⟨w.heap.size+1,2,none⟩=some (.int .i64 bk)∧w6.cell? ⟨w.heap.size+1,3,none⟩=some (.int .i64 0)∧w6.cell? ⟨w.heap.size+1,4,none⟩=some (.int .i64 ans))∧Hid (w6.cell? ⟨p,1,none⟩=some (.slice x2 R.length y2)∧w6.frozen? ⟨p,1,none⟩=false∧w6.heap[p]?=some (.cells #[.slice x1 L'.length y1,.slice x2 R.length y2] 223 (0,0))∧w6.ownsRow B 94 6 (.slice x1 L'.length y1) L'.length (L'.map Lf.cells).flatten∧w6.ownsRow B 148 5 v' (R.length+1) ((R++[Rq.mk id 2 bk 0 ans]).map Rq.cells).flatten∧w6.heap[w.heap.size+1+1]?=some (.cells #[.slice none 0 0,.slice none 0 0] 52 (0,0))∧Below w.heap.size w w6)):=by
  exact Q21
 go_wp2_with fail
 refine wp_region_noPanic ?_
 refine wp_region_held_drew (S:=fun w'=>w'.cell? ⟨w.heap.size+1,0,none⟩=some (.int .i64 id)∧w'.cell? ⟨w.heap.size+1,1,none⟩=some (.int .i64 2)∧w'.cell? ⟨w.heap.size+1,2,none⟩=some (.int .i64 bk)∧w'.cell? ⟨w.heap.size+1,3,none⟩=some (.int .i64 0)∧w'.cell? ⟨w.heap.size+1,4,none⟩=some (.int .i64 ans)) (by kernel_rfl) ?hb (fun hHeld=>?_)
 case hb=>exact ⟨e0,e1',e2,e3,e4⟩
 refine eP 0 ?_;refine Zt 4 ?_;refine Zt 6 ?_
 refine Z2 5 7 (fun K hK=>?_) (fun K hK=>?_)
 ·skip
  go_simp;refine Zk hK (hS:=by exact hHeld) fun hHeld=>?_;clear hK K;refine Z1 7 (fun K hK=>?_);go_simp;refine Zk hK (hS:=by (obtain ⟨s0,s1,s2,s3,s4⟩:=hHeld;exact ⟨aE _ s0,aE _ s1,aE _ s2,aE _ s3,aE _ s4⟩)) fun hHeld=>?_;clear hK K;refine Z1 8 (fun K hK=>?_);rw [if_pos (by rfl)];refine wp_append_own _ _ _ 50 rfl B 148 i1 (.agg #[.int .i64 0,.int .i64 0,.int .i64 0,.int .i64 0,.int .i64 0]) 5 40 Tryz.underlying50 ki ki0 ki1 ki2 rfl (by decide) (.slice x2 R.length y2) R.length (R.map Rq.cells).flatten rfl HOW.out ⟨wz.heap.size,0,none⟩ 1 1 (Rq.cells ⟨id,2,bk,0,ans⟩) rfl rfl HNW.out HON.out HL1.out HL2.out HL3.out ?_;intro v' w6 hown' hgrow _;obtain ⟨x3,y3,rfl,_⟩:=aC hown';obtain ⟨HS6,HRest⟩:=HAft.out _ _ hown' hgrow;have c6:=HRest.out.1;have f6:=HRest.out.2.1;refine hK.out _ _ ?as8 (fun hHeld=>?_)
  case as8=>exact HS6.out
  exact Q64
 ·skip
  go_simp;refine Zk hK (hS:=by (obtain ⟨s0,s1,s2,s3,s4⟩:=hHeld;exact ⟨aE _ s0,aE _ s1,aE _ s2,aE _ s3,aE _ s4⟩)) fun hHeld=>?_;clear hK K;refine Z1 5 (fun K hK=>?_);go_simp;refine Zk hK (hS:=by exact hHeld) fun hHeld=>?_;clear hK K;refine Z1 8 (fun K hK=>?_);rw [if_pos (by rfl)];refine wp_append_own _ _ _ 50 rfl B 148 i1 (.agg #[.int .i64 0,.int .i64 0,.int .i64 0,.int .i64 0,.int .i64 0]) 5 40 Tryz.underlying50 ki ki0 ki1 ki2 rfl (by decide) (.slice x2 R.length y2) R.length (R.map Rq.cells).flatten rfl HOW.out ⟨wz.heap.size,0,none⟩ 1 1 (Rq.cells ⟨id,2,bk,0,ans⟩) rfl rfl HNW.out HON.out HL1.out HL2.out HL3.out ?_;intro v' w6 hown' hgrow _;obtain ⟨x3,y3,rfl,_⟩:=aC hown';obtain ⟨HS6,HRest⟩:=HAft.out _ _ hown' hgrow;have c6:=HRest.out.1;have f6:=HRest.out.2.1;refine hK.out _ _ ?bs8 (fun hHeld=>?_)
  case bs8=>exact HS6.out
  exact Q64
theorem jz (vl vr:Value) (L:List Lf) (R:List Rq) (id kd bk wt an now drain:Int) (L':List Lf) (R':List Rq) (ans:Int) (nw:Bool) (code:Int) (w:World) (hl:aI w 6 vl (L.map Lf.cells)) (hr:aI w 5 vr (R.map Rq.cells)) (h:ED L R ⟨id,kd,bk,wt,an⟩ now drain L' R' ans nw code) :
  Calls Tryz.prog 65 #[.agg #[vl,vr],.agg #[.int .i64 id,.int .i64 kd,.int .i64 bk,.int .i64 wt,.int .i64 an],.int .i64 now,.int .i64 drain] w (jK w L' R' ans nw code):=by
 rcases h with ⟨h1,rfl,rfl,rfl,rfl,rfl⟩|⟨h1,h2,rfl,rfl,rfl,rfl,rfl⟩|⟨h1,h2,hg,rfl⟩
 ·exact qe vl vr L R id kd bk wt an now drain w hl hr h1
 ·exact qh vl vr L R id kd bk wt an now drain w hl hr h1 h2
 ·rcases hg with ⟨q,hq,he,rfl,rfl,rfl,rfl⟩|⟨he,⟨hf,rfl,rfl,rfl,rfl⟩|⟨hf,rfl,⟨hk,hA,rfl⟩|⟨hk,hA,rfl⟩⟩⟩
  ·exact tF vl vr _ _ id kd bk wt an now drain q w hl hr h1 h2 hq he
  ·exact rC vl vr _ _ id kd bk wt an now drain w hl hr h1 h2 he hf
  ·simp only at hk;subst hk;exact rA vl vr L R id bk wt an now drain L' ans w hl hr h1 h2 he hf hA
  ·simp only at hk;subst hk;exact oM vl vr L R id bk wt an now drain L' ans w hl hr h1 h2 he hf hA
end
end Go.Proofs.YtfliffgmeobclaaGreat
