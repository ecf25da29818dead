/- Texts of the row's proof. Conditions: none. -/
import Derived.Test.YtocbhafgjepnjaaGreatK40
namespace Go.Proofs.YtocbhafgjepnjaaGreat
set_option maxRecDepth 100000
set_option maxHeartbeats 8000000
section
open Go.RowKit
structure WK (K:Nat→Prop) (w:World) (X:Wd) (V:Vs):Prop where
 ro:nJ K w X V
 fl:cZ K w 7 V.f (X.flows.map Fl.cells)
 he:cZ K w 4 V.h (eJ X V)
theorem WK.wa {K:Nat→Prop} {w:World} {X:Wd} {V:Vs} (h:WK K w X V):WA w X V:=⟨gQ h.ro (fun _ _ _=>trivial),h.fl.1,h.he.1⟩
theorem WK.keep {K:Nat→Prop} {w w':World} {X:Wd} {V:Vs} (h:WK K w X V) (hs:w.heap.size≤w'.heap.size) (hb:∀ b,b<w.heap.size→K b→w'.heap[b]?=w.heap[b]?):WK K w' X V:=
 ⟨dE h.ro hs hb,bG h.fl hs hb,bG h.he hs hb⟩
theorem WK.imp {K K':Nat→Prop} {w:World} {X:Wd} {V:Vs} (h:WK K w X V) (hk:∀ b,b<w.heap.size→K b→K' b):WK K' w X V:=⟨gQ h.ro hk,bR h.fl hk,bR h.he hk⟩
theorem G.wk {B p:Nat} {w:World} {X:Wd} {O:List Out} {S:List Nat} {V:Vs} {vo:Value} (h:G B p w X O S V vo):WK (fun b=>B≤b) w X V:=
 ⟨gQ h.ro (fun _ _ hk=>hk.2),eC (aC h.of (by simp) (iH _)),eC (aC h.oh (dD h.ro.ml) (mu X V))⟩
def DoPost (w:World) (Y:Wd) (O:List Out) (e:Ending) (w':World):Prop:=∃ V' a c,e=.returned (.tuple #[.agg (cQ Y V').toArray,.slice a O.length c,.int .i64 0])∧WK (fun b=>w.heap.size≤b) w' Y V'∧aM w.heap.size w' 7 (.slice a O.length c) (O.map Out.cells)∧Below w.heap.size w w'
theorem mi {P:Program} {fn:Func} {p q r:Tmp} {ty:TypeId} (h:fn.results=#[.cell p ty,.tmp q,.tmp r]) (tmps:Array Value) (w:World) (g:Nat) (t:TypeId) (cs:Array Value) (fr:Nat×Nat) (d:TypeDesc) (u v:Value)
  (hp:tmps.getD p undef=.pointer (some ⟨g,0,none⟩)) (hq:tmps.getD q undef=u) (hr:tmps.getD r undef=v) (hg:w.heap[g]?=some (.cells cs t fr))
  (hu:P.underlying ty=some d) (hd:(match d with|.struct _|.array _ _=>true|_=>false)=true) (hi:(P.info? ty).map (·.size)=some cs.size) :
  (results fn tmps).run P w=.ok (.tuple #[.agg cs,u,v]) w:=by
 have hp':tmps[p]?.getD undef=.pointer (some ⟨g,0,none⟩):=by simpa using hp
 have hq':tmps[q]?.getD undef=u:=by simpa using hq
 have hr':tmps[r]?.getD undef=v:=by simpa using hr
 simp [results,h,hp',hq',hr',asAddr,run_loadVar_row w g t ty cs fr d hg hu hd hi]
theorem Ef {X:Wd} (h:GwMay X):Ia X:=by
 refine ⟨by have:=h.tb.2.1;omega,by have:=h.len;omega,by have:=h.bk.1;omega,by have:=h.bk.2.1;omega,by have:=jx h.ring;omega,h.hl,fun i hi=>?_,gL h,fun i hi=>?_⟩
 ·have h1:=fv (h.ht i hi);have:=h1.2.2.2.1;have:=h1.1.2.1;omega
 ·have hl:=gL h
  have e:X.lists.getD i []∈X.lists:=by rw [aK (by omega)];exact Iw _
  have h1:(X.lists.getD i []).length≤X.lists.flatten.length:=(List.sublist_flatten_of_mem e).length_le;have h2:X.lists.flatten.length=(em X.now X.flows).length:=h.whp.length_eq;exact Q125
structure DoG (w wE:World) (p:Nat) (Y:Wd) (O:List Out) (V:Vs) (a:Option Addr) (c:Nat):Prop where
 hp:wE.heap[p]?=some (.cells (cQ Y V++[Value.slice a O.length c]).toArray 126 (0,0))
 hz:wE.heap[w.heap.size+2]?=some (.cells bQ 54 (0,0))
 ne:w.heap.size+2<p
 wk:WK (fun b=>w.heap.size+3≤b) wE Y V
 ro:aM (w.heap.size+3) wE 7 (.slice a O.length c) (O.map Out.cells)
 be:Below w.heap.size w wE
theorem DoG.of {w wg wE:World} {N p:Nat} {Y:Wd} {O:List Out} {S S':List Nat} {V:Vs} {vo:Value} (h:G N p wE Y O S' V vo) (hN:w.heap.size+3≤N) (hNg:N≤wg.heap.size) (bg:Below w.heap.size w wg) (hz:wg.heap[w.heap.size+2]?=some (.cells bQ 54 (0,0))) (f:Fr S wg wE) (hS:∀ x∈S,N≤x) :
  ∃ a c,vo=.slice a O.length c∧DoG w wE p Y O V a c:=by
 obtain ⟨a,c,e,_⟩:=aB h.oo
 have bE:=f.below hNg hS
 refine ⟨a,c,e,⟨by rw [← e];exact h.bk,(bE.block _ (by omega)).trans hz,by have:=h.pB;omega,h.wk.imp (fun b _ hb=>by omega),?_,bg.trans (bE.mono (by have:=bg.size;omega))⟩⟩
 rw [← e]
 exact aE (aC h.oo (by simp) (by intro c hc;obtain ⟨x,_,rfl⟩:=II.1 hc;rfl)) hN
theorem uS {w:World} {p:Nat} {L:List Value} {v:Value} {T:TypeId} {fr:Nat×Nat} (h:w.heap[p]?=some (.cells (L++[v]).toArray T fr)):w.rangeAt p 0 L:=by
 intro j u hj
 have hl:j<L.length:=by
  exact Q150
 rw [Nat.zero_add,aa h j,Io,IR hl,hj]
theorem kj {K:Nat→Prop} {w:World} {X:Wd} {V:Vs} (h:WK K w X V):(cQ X V).toArray.all (·.oneCell')=true:=by
 obtain ⟨_,_,e1,_⟩:=h.ro.ta.1;obtain ⟨_,_,e2,_⟩:=h.fl.1;obtain ⟨_,_,e3,_⟩:=h.ro.li.1;obtain ⟨_,_,e4,_⟩:=h.ro.re.1;obtain ⟨_,_,e5,_⟩:=h.ro.sp.1;obtain ⟨_,_,e6,_⟩:=h.he.1;obtain ⟨_,_,e7⟩:=bI h.ro.wh.at_;exact D4 X (by rw [e1];rfl) (by rw [e2];rfl) (by rw [e3];rfl) (by rw [e4];rfl) (by rw [e5];rfl) (by rw [e6];rfl) (by rw [e7];rfl)
theorem DoG.drew {w wE:World} {p:Nat} {Y:Wd} {O:List Out} {V:Vs} {a:Option Addr} {c:Nat} (h:DoG w wE p Y O V a c):DoG w wE.drew p Y O V a c:=
 ⟨h.hp,h.hz,h.ne,h.wk.keep (Ij _) (fun _ _ _=>rfl),⟨(bG (eC h.ro) (Ij _) (fun _ _ _=>rfl)).1,h.ro.2⟩,h.be.drew⟩
theorem DoG.fin {w wE:World} {p:Nat} {Y:Wd} {O:List Out} {V:Vs} {a:Option Addr} {c:Nat} (h:DoG w wE p Y O V a c) (arr:Array Value) :
  WK (fun b=>w.heap.size≤b) (wE.setRow (w.heap.size+2) arr) Y V∧aM w.heap.size (wE.setRow (w.heap.size+2) arr) 7 (.slice a O.length c) (O.map Out.cells)∧Below w.heap.size w (wE.setRow (w.heap.size+2) arr):=by
 have hs:wE.heap.size≤(wE.setRow (w.heap.size+2) arr).heap.size:=by simp [World.setRow]
 have hk:∀ b,b<wE.heap.size→w.heap.size+3≤b→(wE.setRow (w.heap.size+2) arr).heap[b]?=wE.heap[b]?:=fun b _ hb=>setRow_other _ _ _ _ (by omega)
 refine ⟨(h.wk.keep hs hk).imp (fun b _ hb=>by omega),⟨(bG (eC h.ro) hs hk).1,fun a n c e=>IG (by omega) (h.ro.2 a n c e)⟩,aQ h.be (by omega)⟩
theorem zo {w:World} {X:Wd} {V:Vs} (h:WA w X V) (hm:WdMay X) (ev:Ev) (he:jL ev 0) (hv:EvMay X ev):Calls Tryz.prog 24 #[.agg (cQ X V).toArray,.agg (Ev.cells ev).toArray] w (DoPost w (ib X ev).1 (ib X ev).2):=by
 have HW:=Ib h;have HX:=Ib hm;have HE:=Ib he;have HV:=Ib hv
 have hkind:1≤ev.kind∧ev.kind≤7:=by rcases he with ⟨_,h⟩|⟨_,_,h⟩|⟨_,_,_,h⟩|⟨h,_⟩;omega;omega;omega;exact h
 obtain ⟨R,hR⟩:∃ R,R=ib X ev:=⟨_,rfl⟩;rw [← hR];have HR:=Ib hR;obtain ⟨kd,ky,sl,gn,gd,rq,bk,wt⟩:=ev;unfold Ev.cells;simp only at hkind;obtain ⟨AW,hAW⟩:∃ AW,AW=(cQ X V).toArray:=⟨_,rfl⟩;rw [← hAW];have HA:=Ib hAW;have HI:=Ib (show (Tryz.prog.info? 54).map (·.size)=some AW.size by rw [hAW];kernel_rfl);clear h hm he hv hR hAW;have b0:Below w.heap.size w (((w.alloc (.cells AW 54 (0,0))).alloc (.cells #[.int .i64 kd,.int .i64 ky,.int .i64 sl,.int .i64 gn,.bool gd,.int .i64 rq,.int .i64 bk,.int .i64 wt] 59 (0,0))).alloc (.cells bQ 54 (0,0))):=((((Ic _ _).alloc (Ij _) _).alloc (by simp) _).alloc (by simp;omega) _);have kw0:(((w.alloc (.cells AW 54 (0,0))).alloc (.cells #[.int .i64 kd,.int .i64 ky,.int .i64 sl,.int .i64 gn,.bool gd,.int .i64 rq,.int .i64 bk,.int .i64 wt] 59 (0,0))).alloc (.cells bQ 54 (0,0))).heap[w.heap.size]?=some (.cells AW 54 (0,0)):=(heap_alloc_old _ _ (by simp;omega)).trans ((heap_alloc_old _ _ (by simp)).trans (au _ rfl));have ke0:(((w.alloc (.cells AW 54 (0,0))).alloc (.cells #[.int .i64 kd,.int .i64 ky,.int .i64 sl,.int .i64 gn,.bool gd,.int .i64 rq,.int .i64 bk,.int .i64 wt] 59 (0,0))).alloc (.cells bQ 54 (0,0))).heap[w.heap.size+1]?=some (.cells #[.int .i64 kd,.int .i64 ky,.int .i64 sl,.int .i64 gn,.bool gd,.int .i64 rq,.int .i64 bk,.int .i64 wt] 59 (0,0)):=(heap_alloc_old _ _ (by simp)).trans (au _ (by simp));have kz0:(((w.alloc (.cells AW 54 (0,0))).alloc (.cells #[.int .i64 kd,.int .i64 ky,.int .i64 sl,.int .i64 gn,.bool gd,.int .i64 rq,.int .i64 bk,.int .i64 wt] 59 (0,0))).alloc (.cells bQ 54 (0,0))).heap[w.heap.size+2]?=some (.cells bQ 54 (0,0)):=au _ (by simp);have HK:=Ib kw0;have H0:=Ib (And.intro b0 (And.intro ke0 kz0));clear b0 kw0 ke0 kz0;go_enter Tryz.func24,Tryz.ntmps24;go_wp2_with (refine t7 rfl 54 (.tmp 2) rfl w.heap.size rfl 54 AW (0,0) _ HK.out Tryz.underlying54 rfl HI.out ?_);refine dv _ (fun W0 hW0=>?_);have HK0:=Ib (show W0.heap[w.heap.size]?=some (.cells AW 54 (0,0)) by rw [hW0];exact HK.out);have H0':=Ib (show Below w.heap.size w W0∧W0.heap[w.heap.size+1]?=some (.cells #[.int .i64 kd,.int .i64 ky,.int .i64 sl,.int .i64 gn,.bool gd,.int .i64 rq,.int .i64 bk,.int .i64 wt] 59 (0,0))∧W0.heap[w.heap.size+2]?=some (.cells bQ 54 (0,0)) by rw [hW0];exact H0.out);clear hW0 HK H0;rw [HA.out];refine (Az (HW.out.below H0'.out.1) HX.out).mono ?_;rintro e w1 ⟨rfl,hb1⟩;rw [← HA.out];have b1:=H0'.out.1.trans (hb1.mono H0'.out.1.size);have ke1:=ai hb1 H0'.out.2.1 (lt_of_block H0'.out.2.1);have kz1:=ai hb1 H0'.out.2.2 (lt_of_block H0'.out.2.2);have HK:=Ib (ai hb1 HK0.out (lt_of_block HK0.out));have y0:=aa ke1 0;have y1:=aa ke1 1;have y2:=aa ke1 2;have y3:=aa ke1 3;have y4:=aa ke1 4;have y5:=aa ke1 5;have y6:=aa ke1 6;have y7:=aa ke1 7;simp only [Io,Im,Il] at y0 y1 y2 y3 y4 y5 y6 y7;have l1:=lt_of_block ke1;have H1:=Ib (And.intro b1 (And.intro ke1 kz1));clear hb1 b1 ke1 kz1;go_wp2_with fail;refine (uY kd ky sl gn gd rq bk wt 0 _ HE.out).mono ?_;rintro e w2 ⟨rfl,hb2⟩;have b2:=H1.out.1.trans (hb2.mono H1.out.1.size);have ke2:=ai hb2 H1.out.2.1 (lt_of_block H1.out.2.1);have kz2:=ai hb2 H1.out.2.2 (lt_of_block H1.out.2.2);have kk2:=ai hb2 HK.out (lt_of_block HK.out);clear HK HK0;have HK:=Ib kk2;have y0:=aa ke2 0;have z16:=aa kk2 16;rw [HA.out,wdA] at z16;simp only [Io,Im,Il] at y0 z16;have l2:=lt_of_block ke2;have l2':=lt_of_block kk2;have H2:=Ib (And.intro b2 (And.intro ke2 kz2));have htk:kd=7→X.now<1099511626776:=HV.out.tk
 have hg:(kd=7∧decide (kd=7)=true∧decide (X.now=1099511626776)=false)∨(kd≠7∧decide (kd=7)=false):=by
  by_cases g:kd=7
  ·refine Or.inl ⟨g,by simpa using g,?_⟩;have:=htk g;simp;omega
  ·exact Or.inr ⟨g,by simpa using g⟩
 have g3:kd=7→¬ X.now=1099511626776∧(X.now == 1099511626776)=false:=fun g=>by have:=htk g;exact ⟨by omega,by simp;omega⟩
 clear hb2 b2 ke2 kz2 kk2 htk y1 y2 y3 y4 y5 y6 y7 l1;rcases hg with ⟨rfl,g1,g2⟩|⟨g0,g1⟩
 ·obtain ⟨g4,g5⟩:=g3 rfl;clear g3;go_wp2_with (refine t7 rfl 54 (.tmp 2) rfl w.heap.size rfl 54 AW (0,0) _ HK.out Tryz.underlying54 rfl HI.out ?_);refine dv _ (fun W3 hW3=>?_);have HK3:=Ib (show Below w.heap.size w W3∧W3.heap[w.heap.size+1]?=some (.cells #[.int .i64 7,.int .i64 ky,.int .i64 sl,.int .i64 gn,.bool gd,.int .i64 rq,.int .i64 bk,.int .i64 wt] 59 (0,0))∧W3.heap[w.heap.size+2]?=some (.cells bQ 54 (0,0)) by rw [hW3];exact H2.out);clear hW3;rw [HA.out];refine (nU (HW.out.below HK3.out.1) (Ef HX.out.gw)).mono ?_;rintro e w3 ⟨V2,rfl,hz3,hb3,hNg⟩;obtain ⟨AW2,hAW2⟩:∃ A,A=(cQ X V2).toArray:=⟨_,rfl⟩;rw [← hAW2]
  have hsz:AW2.size=26:=by rw [hAW2];rfl
  have HA2:=Ib hAW2
  have hN3:w.heap.size+3≤W3.heap.size+2:=by have:=lt_of_block HK3.out.2.2;omega
  have b3:=HK3.out.1.trans (hb3.mono HK3.out.1.size);have ke3:=ai hb3 HK3.out.2.1 (lt_of_block HK3.out.2.1);have kz3:=ai hb3 HK3.out.2.2 (lt_of_block HK3.out.2.2);have y0:=aa ke3 0;simp only [Io,Il] at y0;have l3:=lt_of_block ke3;have H3:=Ib (And.intro b3 (And.intro ke3 (And.intro kz3 hz3)));clear hAW2 hb3 b3 ke3 kz3 hz3
  have hR1:R=gX X:=by rw [HR.out];simp [ib]
  go_wp2_with fail;refine dv _ (fun wg hwg=>?_)
  have hwg':wg=w3.alloc (.cells (cQ X V2++[Value.slice none 0 0]).toArray 126 (0,0)):=by
   rw [hwg,HA2.out]
   kernel_rfl
  obtain ⟨S,hG,hS⟩:=jK H3.out.2.2.2 hNg;rw [← hwg'] at hG
  have hzg:wg.heap[w.heap.size+2]?=some (.cells bQ 54 (0,0)):=by rw [hwg'];exact (heap_alloc_old _ _ (lt_of_block H3.out.2.2.1)).trans H3.out.2.2.1
  have bg:Below w.heap.size w wg:=by rw [hwg'];exact H3.out.1.alloc H3.out.1.size _
  have hNg':W3.heap.size+2≤wg.heap.size:=by rw [hwg'];simp;omega
  have HG:=Ib (And.intro hG (And.intro hS (And.intro hzg (And.intro bg hNg'))));clear hwg hwg' hG hS hzg bg hNg';refine (xN HG.out.1 (Ck HX.out (HV.out.tk rfl))).mono ?_;exact Q2
 ·go_wp2_with (refine t7 rfl 54 (.tmp 2) rfl w.heap.size rfl 54 AW (0,0) _ HK.out Tryz.underlying54 rfl HI.out ?_);refine dv _ (fun W3 hW3=>?_);have HK3:=Ib (show Below w.heap.size w W3∧W3.heap[w.heap.size+1]?=some (.cells #[.int .i64 kd,.int .i64 ky,.int .i64 sl,.int .i64 gn,.bool gd,.int .i64 rq,.int .i64 bk,.int .i64 wt] 59 (0,0))∧W3.heap[w.heap.size+2]?=some (.cells bQ 54 (0,0)) by rw [hW3];exact H2.out);clear hW3;rw [HA.out];refine (nU (HW.out.below HK3.out.1) (Ef HX.out.gw)).mono ?_;rintro e w3 ⟨V2,rfl,hz3,hb3,hNg⟩;obtain ⟨AW2,hAW2⟩:∃ A,A=(cQ X V2).toArray:=⟨_,rfl⟩;rw [← hAW2]
  have hsz:AW2.size=26:=by rw [hAW2];rfl
  have HA2:=Ib hAW2
  have hN3:w.heap.size+3≤W3.heap.size+2:=by have:=lt_of_block HK3.out.2.2;omega
  have b3:=HK3.out.1.trans (hb3.mono HK3.out.1.size);have ke3:=ai hb3 HK3.out.2.1 (lt_of_block HK3.out.2.1);have kz3:=ai hb3 HK3.out.2.2 (lt_of_block HK3.out.2.2);have y0:=aa ke3 0;simp only [Io,Il] at y0;have l3:=lt_of_block ke3;have H3:=Ib (And.intro b3 (And.intro ke3 (And.intro kz3 hz3)));clear hAW2 hb3 b3 ke3 kz3 hz3;have hk6:kd=1∨kd=2∨kd=3∨kd=4∨kd=5∨kd=6:=by omega
  rcases hk6 with rfl|rfl|rfl|rfl|rfl|rfl
  ·obtain ⟨n,rfl⟩:=Iy HV.out.k0
   have hkn:n<4294967296:=by have:=HV.out.k1;simp only at this;omega
   have hR1:R=ep X n:=by rw [HR.out];simp [ib]
   have y1:=aa H3.out.2.1 1;simp only [Io,Im,Il] at y1;go_wp2_with fail;refine dv _ (fun wg hwg=>?_)
   have hwg':wg=w3.alloc (.cells (cQ X V2++[Value.slice none 0 0]).toArray 126 (0,0)):=by
    rw [hwg,HA2.out]
    kernel_rfl
   obtain ⟨S,hG,hS⟩:=jK H3.out.2.2.2 hNg;rw [← hwg'] at hG
   have hzg:wg.heap[w.heap.size+2]?=some (.cells bQ 54 (0,0)):=by rw [hwg'];exact (heap_alloc_old _ _ (lt_of_block H3.out.2.2.1)).trans H3.out.2.2.1
   have bg:Below w.heap.size w wg:=by rw [hwg'];exact H3.out.1.alloc H3.out.1.size _
   have hNg':W3.heap.size+2≤wg.heap.size:=by rw [hwg'];simp;omega
   have HG:=Ib (And.intro hG (And.intro hS (And.intro hzg (And.intro bg hNg'))));clear hwg hwg' hG hS hzg bg hNg';refine (xO HG.out.1 HX.out.gw n hkn (by simp)).mono ?_;exact Q2
  ·have hR1:R=ez X ⟨2,ky,sl,gn,gd,rq,bk,wt⟩:=by rw [HR.out];simp [ib]
   have y1:=aa H3.out.2.1 1;have y2:=aa H3.out.2.1 2;have y3:=aa H3.out.2.1 3;have y4:=aa H3.out.2.1 4;have y5:=aa H3.out.2.1 5;have y6:=aa H3.out.2.1 6;have y7:=aa H3.out.2.1 7;simp only [Io,Im,Il] at y1 y2 y3 y4 y5 y6 y7;go_wp2_with fail;refine dv _ (fun wg hwg=>?_)
   have hwg':wg=w3.alloc (.cells (cQ X V2++[Value.slice none 0 0]).toArray 126 (0,0)):=by
    rw [hwg,HA2.out]
    kernel_rfl
   obtain ⟨S,hG,hS⟩:=jK H3.out.2.2.2 hNg;rw [← hwg'] at hG
   have hzg:wg.heap[w.heap.size+2]?=some (.cells bQ 54 (0,0)):=by rw [hwg'];exact (heap_alloc_old _ _ (lt_of_block H3.out.2.2.1)).trans H3.out.2.2.1
   have bg:Below w.heap.size w wg:=by rw [hwg'];exact H3.out.1.alloc H3.out.1.size _
   have hNg':W3.heap.size+2≤wg.heap.size:=by rw [hwg'];simp;omega
   have HG:=Ib (And.intro hG (And.intro hS (And.intro hzg (And.intro bg hNg'))));clear hwg hwg' hG hS hzg bg hNg';refine (lM HG.out.1 HX.out.gw ⟨2,ky,sl,gn,gd,rq,bk,wt⟩ (by simp) (by simp)).mono ?_;exact Q2
  ·have hR1:R=ez X ⟨3,ky,sl,gn,gd,rq,bk,wt⟩:=by rw [HR.out];simp [ib]
   have y1:=aa H3.out.2.1 1;have y2:=aa H3.out.2.1 2;have y3:=aa H3.out.2.1 3;have y4:=aa H3.out.2.1 4;have y5:=aa H3.out.2.1 5;have y6:=aa H3.out.2.1 6;have y7:=aa H3.out.2.1 7;simp only [Io,Im,Il] at y1 y2 y3 y4 y5 y6 y7;go_wp2_with fail;refine dv _ (fun wg hwg=>?_)
   have hwg':wg=w3.alloc (.cells (cQ X V2++[Value.slice none 0 0]).toArray 126 (0,0)):=by
    rw [hwg,HA2.out]
    kernel_rfl
   obtain ⟨S,hG,hS⟩:=jK H3.out.2.2.2 hNg;rw [← hwg'] at hG
   have hzg:wg.heap[w.heap.size+2]?=some (.cells bQ 54 (0,0)):=by rw [hwg'];exact (heap_alloc_old _ _ (lt_of_block H3.out.2.2.1)).trans H3.out.2.2.1
   have bg:Below w.heap.size w wg:=by rw [hwg'];exact H3.out.1.alloc H3.out.1.size _
   have hNg':W3.heap.size+2≤wg.heap.size:=by rw [hwg'];simp;omega
   have HG:=Ib (And.intro hG (And.intro hS (And.intro hzg (And.intro bg hNg'))));clear hwg hwg' hG hS hzg bg hNg';refine (lM HG.out.1 HX.out.gw ⟨3,ky,sl,gn,gd,rq,bk,wt⟩ (by simp) (by simp)).mono ?_;exact Q2
  ·have hR1:R=ez X ⟨4,ky,sl,gn,gd,rq,bk,wt⟩:=by rw [HR.out];simp [ib]
   have y1:=aa H3.out.2.1 1;have y2:=aa H3.out.2.1 2;have y3:=aa H3.out.2.1 3;have y4:=aa H3.out.2.1 4;have y5:=aa H3.out.2.1 5;have y6:=aa H3.out.2.1 6;have y7:=aa H3.out.2.1 7;simp only [Io,Im,Il] at y1 y2 y3 y4 y5 y6 y7;go_wp2_with fail;refine dv _ (fun wg hwg=>?_)
   have hwg':wg=w3.alloc (.cells (cQ X V2++[Value.slice none 0 0]).toArray 126 (0,0)):=by
    rw [hwg,HA2.out]
    kernel_rfl
   obtain ⟨S,hG,hS⟩:=jK H3.out.2.2.2 hNg;rw [← hwg'] at hG
   have hzg:wg.heap[w.heap.size+2]?=some (.cells bQ 54 (0,0)):=by rw [hwg'];exact (heap_alloc_old _ _ (lt_of_block H3.out.2.2.1)).trans H3.out.2.2.1
   have bg:Below w.heap.size w wg:=by rw [hwg'];exact H3.out.1.alloc H3.out.1.size _
   have hNg':W3.heap.size+2≤wg.heap.size:=by rw [hwg'];simp;omega
   have HG:=Ib (And.intro hG (And.intro hS (And.intro hzg (And.intro bg hNg'))));clear hwg hwg' hG hS hzg bg hNg';refine (lM HG.out.1 HX.out.gw ⟨4,ky,sl,gn,gd,rq,bk,wt⟩ (by simp) (by simp)).mono ?_;exact Q2
  ·have hR1:R=oL X ⟨5,ky,sl,gn,gd,rq,bk,wt⟩:=by rw [HR.out];simp [ib]
   have hak:=HV.out.ask (Or.inl rfl);have hgo:=pd X (e:=⟨5,ky,sl,gn,gd,rq,bk,wt⟩) (Or.inl rfl);obtain ⟨hb',hrm,_⟩:=ug HX.out.gw hak hgo;have y1:=aa H3.out.2.1 1;have y2:=aa H3.out.2.1 2;have y3:=aa H3.out.2.1 3;have y4:=aa H3.out.2.1 4;have y5:=aa H3.out.2.1 5;have y6:=aa H3.out.2.1 6;have y7:=aa H3.out.2.1 7;simp only [Io,Im,Il] at y1 y2 y3 y4 y5 y6 y7;go_wp2_with fail;refine dv _ (fun wg hwg=>?_)
   have hwg':wg=w3.alloc (.cells (cQ X V2++[Value.slice none 0 0]).toArray 126 (0,0)):=by
    rw [hwg,HA2.out]
    kernel_rfl
   obtain ⟨S,hG,hS⟩:=jK H3.out.2.2.2 hNg;rw [← hwg'] at hG
   have hzg:wg.heap[w.heap.size+2]?=some (.cells bQ 54 (0,0)):=by rw [hwg'];exact (heap_alloc_old _ _ (lt_of_block H3.out.2.2.1)).trans H3.out.2.2.1
   have bg:Below w.heap.size w wg:=by rw [hwg'];exact H3.out.1.alloc H3.out.1.size _
   have hNg':W3.heap.size+2≤wg.heap.size:=by rw [hwg'];simp;omega
   have HG:=Ib (And.intro hG (And.intro hS (And.intro hzg (And.intro bg hNg'))));clear hwg hwg' hG hS hzg bg hNg';refine (rV HG.out.1 HX.out.gw ⟨5,ky,sl,gn,gd,rq,bk,wt⟩ hak (by simp) _ _ _ _ hgo hb' hrm).mono ?_;unfold oL at hR1;exact Q2
  ·have hR1:R=oL X ⟨6,ky,sl,gn,gd,rq,bk,wt⟩:=by rw [HR.out];simp [ib]
   have hak:=HV.out.ask (Or.inr rfl);have hgo:=pd X (e:=⟨6,ky,sl,gn,gd,rq,bk,wt⟩) (Or.inr rfl);obtain ⟨hb',hrm,_⟩:=ug HX.out.gw hak hgo;have y1:=aa H3.out.2.1 1;have y2:=aa H3.out.2.1 2;have y3:=aa H3.out.2.1 3;have y4:=aa H3.out.2.1 4;have y5:=aa H3.out.2.1 5;have y6:=aa H3.out.2.1 6;have y7:=aa H3.out.2.1 7;simp only [Io,Im,Il] at y1 y2 y3 y4 y5 y6 y7;go_wp2_with fail;refine dv _ (fun wg hwg=>?_)
   have hwg':wg=w3.alloc (.cells (cQ X V2++[Value.slice none 0 0]).toArray 126 (0,0)):=by
    rw [hwg,HA2.out]
    kernel_rfl
   obtain ⟨S,hG,hS⟩:=jK H3.out.2.2.2 hNg;rw [← hwg'] at hG
   have hzg:wg.heap[w.heap.size+2]?=some (.cells bQ 54 (0,0)):=by rw [hwg'];exact (heap_alloc_old _ _ (lt_of_block H3.out.2.2.1)).trans H3.out.2.2.1
   have bg:Below w.heap.size w wg:=by rw [hwg'];exact H3.out.1.alloc H3.out.1.size _
   have hNg':W3.heap.size+2≤wg.heap.size:=by rw [hwg'];simp;omega
   have HG:=Ib (And.intro hG (And.intro hS (And.intro hzg (And.intro bg hNg'))));clear hwg hwg' hG hS hzg bg hNg';refine (rV HG.out.1 HX.out.gw ⟨6,ky,sl,gn,gd,rq,bk,wt⟩ hak (by simp) _ _ _ _ hgo hb' hrm).mono ?_;unfold oL at hR1;exact Q2
theorem cz (n m:Int) (w:World) (h0:-9223372036854775808≤n) (h1:n≤9223372036854775807) (hm:0<m) (hm2:m≤9223372036854775807):Calls Tryz.prog 33 #[.int .i64 n,.int .i64 m] w fun e w'=>e=.returned (.int .i64 (pk n m))∧w'=w:=by
 have hz:¬ m=0:=by omega
 obtain ⟨r,hr⟩:∃ r,r=pk n m:=⟨_,rfl⟩;have HR:=Ib hr;rw [← hr];clear hr;by_cases hn:n<0
 ·have e1:Int.tmod (-(n+1)) m=r:=by rw [HR.out];unfold pk;rw [if_pos hn];exact Int.tmod_eq_emod_of_nonneg (by omega)
  exact Q152
 ·have e1:Int.tmod n m=r:=by rw [HR.out];unfold pk;rw [if_neg hn];exact Int.tmod_eq_emod_of_nonneg (by omega)
  exact Q152
theorem bK (n m:Int) (w:World) (h0:-9223372036854775808≤n) (h1:n≤9223372036854775807) (hm:0<m) (hm2:m≤9223372036854775807):Calls Tryz.prog 17 #[.int .i64 n,.int .i64 m] w fun e w'=>e=.returned (.int .i64 (pk n m))∧w'=w:=by
 go_enter Tryz.func17,Tryz.ntmps17;go_wp2_with (go_at_call 33;refine (cz n m _ h0 h1 hm hm2).mono ?_;rintro e w1 ⟨rfl,rfl⟩)
 all_goals first|(go_ret;exact ⟨rfl,rfl⟩)|exact Zx
structure Su where
 a0:Int
 a1:Int
 a2:Int
 a3:Int
 a4:Int
 a5:Int
 a6:Int
 a7:Int
 a8:Int
 a9:Int
 b0:Int
 b1:Int
 b2:Int
 c0:Int
 c1:Int
 c2:Int
def Su.cells (s:Su):List Value:=[.int .i64 s.a0,.int .i64 s.a1,.int .i64 s.a2,.int .i64 s.a3,.int .i64 s.a4,.int .i64 s.a5,.int .i64 s.a6,.int .i64 s.a7,.int .i64 s.a8,.int .i64 s.a9,.int .i64 s.b0,.int .i64 s.b1,.int .i64 s.b2,.int .i64 s.c0,.int .i64 s.c1,.int .i64 s.c2]
def BD (s:Su):Int:=1+pk s.a2 20
def Cc (s:Su):Int:=1+pk s.c0 16
def yC (s:Su):Cf:=⟨1+pk s.a0 8,BD s+pk s.a1 (20 - BD s+1),BD s,pk s.a3 4,pk s.a4 6,1+pk s.a5 5,1+pk s.a6 6,1+pk s.a7 4,pk s.a8 4,pk s.a9 101,pk s.b0 21,1+pk s.b1 20,pk s.b2 21,Cc s,1+pk s.c1 (Cc s),1+pk (Int.tmod s.c2 20) 500⟩
theorem pa (s:Su):j4 (yC s):=by
 have h0:=cP s.a0 (m:=8) (by decide);have h2:=cP s.a2 (m:=20) (by decide);have h1:=cP s.a1 (m:=20 - BD s+1) (by unfold BD;omega);have h3:=cP s.a3 (m:=4) (by decide);have h4:=cP s.a4 (m:=6) (by decide);have h5:=cP s.a5 (m:=5) (by decide);have h6:=cP s.a6 (m:=6) (by decide);have h7:=cP s.a7 (m:=4) (by decide);have h8:=cP s.a8 (m:=4) (by decide);have h9:=cP s.a9 (m:=101) (by decide);have k0:=cP s.b0 (m:=21) (by decide);have k1:=cP s.b1 (m:=20) (by decide);have k2:=cP s.b2 (m:=21) (by decide);have l0:=cP s.c0 (m:=16) (by decide);have l1:=cP s.c1 (m:=Cc s) (by unfold Cc;omega);have l2:=cP (Int.tmod s.c2 20) (m:=500) (by decide);have hd:BD s=1+pk s.a2 20:=rfl;have hw:Cc s=1+pk s.c0 16:=rfl;refine ⟨⟨?_,?_,?_⟩,?_,?_⟩
 all_goals simp only [yC,gW,gV]
 all_goals omega
def SuI (s:Su):Prop:=∀ v∈s.cells,∃ n,v=.int .i64 n∧-9223372036854775808≤n∧n≤9223372036854775807
theorem dh (a b c:Int) (w:World) (a0:-9223372036854775808≤a) (a1:a≤9223372036854775807) (b0:-9223372036854775808≤b) (b1:b≤9223372036854775807) (c0:-9223372036854775808≤c) (c1:c≤9223372036854775807) :
  Calls Tryz.prog 48 #[.int .i64 a,.int .i64 b,.int .i64 c] w fun e w'=>e=.returned (.agg #[.int .i64 (pk a 21),.int .i64 (1+pk b 20),.int .i64 (pk c 21)])∧Below w.heap.size w w':=by
 have p1:=cP b (m:=20) (by decide)
 go_enter Tryz.func48,Tryz.ntmps48
 go_wp2_with (go_at_call 33;refine (cz _ _ _ (by assumption) (by assumption) (by omega) (by omega)).mono ?_;rintro e w1 ⟨rfl,rfl⟩)
 all_goals (refine IM (v:=.agg #[.int .i64 (pk a 21),.int .i64 (1+pk b 20),.int .i64 (pk c 21)]) ?_ rfl ?_;(focus (first|(simp [results,Tryz.results48,go_sem];done)|(simp [results,Tryz.results48,go_sem, *];done)));exact ⟨rfl,Zb⟩)
theorem dw (a b c:Int) (w:World) (a0:-9223372036854775808≤a) (a1:a≤9223372036854775807) (b0:-9223372036854775808≤b) (b1:b≤9223372036854775807) (c0:-9223372036854775808≤c) (c1:c≤9223372036854775807) :
  Calls Tryz.prog 49 #[.int .i64 a,.int .i64 b,.int .i64 c] w fun e w'=>e=.returned (.agg #[.int .i64 (1+pk a 16),.int .i64 (1+pk b (1+pk a 16)),.int .i64 (1+pk c 500)])∧Below w.heap.size w w':=by
 have p1:=cP a (m:=16) (by decide)
 have p2:=cP b (m:=1+pk a 16) (by omega)
 have p3:=cP c (m:=500) (by decide)
 go_enter Tryz.func49,Tryz.ntmps49
 go_wp2_with (go_at_call 33;refine (cz _ _ _ (by assumption) (by assumption) (by omega) (by omega)).mono ?_;rintro e w1 ⟨rfl,rfl⟩)
 all_goals (refine IM (v:=.agg #[.int .i64 (1+pk a 16),.int .i64 (1+pk b (1+pk a 16)),.int .i64 (1+pk c 500)]) ?_ rfl ?_;(focus (first|(simp [results,Tryz.results49,go_sem];done)|(simp [results,Tryz.results49,go_sem, *];done)));exact ⟨rfl,Zb⟩)
def Vs.zero:Vs:=⟨.slice none 0 0,.slice none 0 0,.slice none 0 0,.slice none 0 0,.slice none 0 0,.slice none 0 0,.slice none 0 0,[]⟩
structure Ms where
 b:Vs
 a:Vs
 o:Value
def Ms.zero:Ms:=⟨Vs.zero,Vs.zero,.slice none 0 0⟩
def Stp.zero:Stp:=⟨Ev.zero,di Cf.zero,di Cf.zero,[]⟩
def lc (s:Stp) (m:Ms):List Value:=Ev.cells s.ev++(cQ s.be m.b++(cQ s.af m.a++[m.o]))
theorem kF (s:Stp) (m:Ms):(lc s m).length=61:=rfl
def CU (c:Cf) (vs:Value) (X:Wd) (V:Vs) (vg:Value):List Value:=c.cells++([vs]++(cQ X V++[vg]))
def oA (P:kY) (MS:List Ms):List (List Value):=List.zipWith lc P.steps MS
def NP (p:Nat) (vs vg:Value) (b:Nat):Prop:=b≠p∧vs.ownBlock≠some b∧vg.ownBlock≠some b
structure StW (K:Nat→Prop) (w:World) (s:Stp) (m:Ms):Prop where
 b:WK K w s.be m.b
 a:WK K w s.af m.a
 o:cZ K w 7 m.o (s.out.map Out.cells)
theorem StW.keep {K:Nat→Prop} {w w':World} {s:Stp} {m:Ms} (h:StW K w s m) (hs:w.heap.size≤w'.heap.size) (hb:∀ b,b<w.heap.size→K b→w'.heap[b]?=w.heap[b]?):StW K w' s m:=⟨h.b.keep hs hb,h.a.keep hs hb,bG h.o hs hb⟩
structure PG (B p:Nat) (w:World) (c:Cf) (P:kY) (VL:Vs) (MS:List Ms) (vs vg:Value):Prop where
 bk:w.heap[p]?=some (.cells (CU c vs P.last VL vg).toArray 57 (0,0))
 os:w.ownsRow B 62 61 vs P.steps.length (oA P MS).flatten
 og:w.ownsRow B 110 2 vg P.given.length (P.given.map Hd.cells).flatten
 pB:B≤p
 ps:∀ b,vs.ownBlock=some b→b≠p∧vg.ownBlock≠some b
 pg:∀ b,vg.ownBlock=some b→b≠p
 ml:MS.length=P.steps.length
 wl:WK (NP p vs vg) w P.last VL
 ws:∀ i,i<P.steps.length→StW (NP p vs vg) w (P.steps.getD i Stp.zero) (MS.getD i Ms.zero)
theorem PG.below {B p:Nat} {w w':World} {c:Cf} {P:kY} {VL:Vs} {MS:List Ms} {vs vg:Value} (h:PG B p w c P VL MS vs vg) (hb:Below w.heap.size w w'):PG B p w' c P VL MS vs vg:=
 ⟨(hb.block p (lt_of_block h.bk)).trans h.bk,aY h.os (fun b e=>hb.block b (h.os.lt b e).2),aY h.og (fun b e=>hb.block b (h.og.lt b e).2),h.pB,h.ps,h.pg,h.ml,h.wl.keep hb.size (fun b h1 _=>hb.block b h1),fun i hi=>(h.ws i hi).keep hb.size (fun b h1 _=>hb.block b h1)⟩
theorem Fw (P:kY) (MS:List Ms):∀ c∈oA P MS,c.length=61:=by
 intro c hc;obtain ⟨i,hi,rfl⟩:=List.mem_iff_getElem.1 hc;simp [oA,kF]
theorem me {P:kY} {MS:List Ms} (h:MS.length=P.steps.length):(oA P MS).length=P.steps.length:=by simp [oA,h]
theorem Co {P:kY} {MS:List Ms} (h:MS.length=P.steps.length) {i:Nat} (hi:i<P.steps.length):(oA P MS).getD i []=lc (P.steps.getD i Stp.zero) (MS.getD i Ms.zero):=by
 have h1:i<MS.length:=by omega
 have h2:i<(oA P MS).length:=by rw [me h];exact hi
 unfold oA at h2 ⊢;exact Q120
theorem mW {P:Program} {ops:Array Oper} {S:World→Prop} {op:Oper} {a:Act} (hw:Region.wanted op (yielded ops a.tmps)=true) (t:TypeId) (x0 x1 x2 x3 x4 x5 x6 x7 x8 x9 xa xb:Operand)
  (ho:op.op=.build t #[(0,x0),(1,x1),(2,x2),(3,x3),(4,x4),(5,x5),(6,x6),(7,x7),(8,x8),(9,x9),(10,xa),(11,xb)]) (v0 v1 v2 v3 v4 v5 v6 v7 v8 v9 va vb:Value)
  (h0:a.eval x0=v0) (h1:a.eval x1=v1) (h2:a.eval x2=v2) (h3:a.eval x3=v3) (h4:a.eval x4=v4) (h5:a.eval x5=v5) (h6:a.eval x6=v6) (h7:a.eval x7=v7) (h8:a.eval x8=v8) (h9:a.eval x9=v9) (ha:a.eval xa=va) (hb:a.eval xb=vb)
  (arr:Array Value) (hA:P.built t [(0,v0),(1,v1),(2,v2),(3,v3),(4,v4),(5,v5),(6,v6),(7,v7),(8,v8),(9,v9),(10,va),(11,vb)]=some arr):YieldsIf P ops S op (.agg arr) a:=
 .inl ⟨hw,fun w _=>by
  have hp:P.built t ((#[(0,x0),(1,x1),(2,x2),(3,x3),(4,x4),(5,x5),(6,x6),(7,x7),(8,x8),(9,x9),(10,xa),(11,xb)].map fun (i,x)=>(i,a.eval x))).toList=some arr:=by
   simp only [List.map_toArray,List.map_cons,List.map_nil,h0,h1,h2,h3,h4,h5,h6,h7,h8,h9,ha,hb];exact hA
  unfold execOp;simp only [ho,Sem.run_bind,run_build w t _ arr hp,Result.andThen_ok]
  rfl⟩
theorem Em (x0 x1 x2 x3 x4 x5 x6 x7 x8 x9 a0 a1 a2 b0 b1 b2:Int):Tryz.prog.built 34 [(0,.int .i64 x0),(1,.int .i64 x1),(2,.int .i64 x2),(3,.int .i64 x3),(4,.int .i64 x4),(5,.int .i64 x5),(6,.int .i64 x6),(7,.int .i64 x7),(8,.int .i64 x8),(9,.int .i64 x9),(10,.agg #[.int .i64 a0,.int .i64 a1,.int .i64 a2]),(11,.agg #[.int .i64 b0,.int .i64 b1,.int .i64 b2])]=some (Cf.cells ⟨x0,x1,x2,x3,x4,x5,x6,x7,x8,x9,a0,a1,a2,b0,b1,b2⟩).toArray:=by kernel_rfl
theorem D5 (c:Cf):(Cf.cells c).toArray.all (·.oneCell')=true:=by simp [Cf.cells,Value.oneCell']
theorem tW (c:Cf):(Tryz.prog.info? 34).map (·.size)=some (Cf.cells c).toArray.size:=by show _=some 16;kernel_rfl
def SuS (b:Nat) (s:Su) (w:World):Prop:=w.cell? ⟨b,0,none⟩=some (.int .i64 s.a0)∧w.cell? ⟨b,1,none⟩=some (.int .i64 s.a1)∧w.cell? ⟨b,3,none⟩=some (.int .i64 s.a3)∧w.cell? ⟨b,4,none⟩=some (.int .i64 s.a4)∧w.cell? ⟨b,5,none⟩=some (.int .i64 s.a5)∧w.cell? ⟨b,6,none⟩=some (.int .i64 s.a6)∧w.cell? ⟨b,7,none⟩=some (.int .i64 s.a7)∧w.cell? ⟨b,8,none⟩=some (.int .i64 s.a8)∧w.cell? ⟨b,9,none⟩=some (.int .i64 s.a9)∧w.cell? ⟨b,10,none⟩=some (.int .i64 s.b0)∧w.cell? ⟨b,11,none⟩=some (.int .i64 s.b1)∧w.cell? ⟨b,12,none⟩=some (.int .i64 s.b2)∧w.cell? ⟨b,13,none⟩=some (.int .i64 s.c0)∧w.cell? ⟨b,14,none⟩=some (.int .i64 s.c1)∧w.cell? ⟨b,15,none⟩=some (.int .i64 s.c2)
theorem SuS.of {b:Nat} {s:Su} {w:World} (h:w.heap[b]?=some (.cells (Su.cells s).toArray 24 (0,0))):SuS b s w:=by
 refine ⟨?_,?_,?_,?_,?_,?_,?_,?_,?_,?_,?_,?_,?_,?_,?_⟩<;>(rw [aa h];rfl)
theorem SuS.below {b n:Nat} {s:Su} {w w':World} (h:SuS b s w) (hb:Below n w w') (hn:b<n):SuS b s w':=by
 have k:∀ j v,w.cell? ⟨b,j,none⟩=some v→w'.cell? ⟨b,j,none⟩=some v:=fun j v g=>(hb.cell (p:=⟨b,j,none⟩) hn).trans g;exact Q87
theorem SuS.row {b g:Nat} {s:Su} {w:World} (h:SuS b s w) (hn:b≠g) (L:Array Value):SuS b s (w.setRow g L):=by
 have k:∀ j v,w.cell? ⟨b,j,none⟩=some v→(w.setRow g L).cell? ⟨b,j,none⟩=some v:=fun j v q=>bB q hn;exact Q87
theorem vi (s:Su) (hs:SuI s) (w:World):Calls Tryz.prog 25 #[.agg (Su.cells s).toArray] w fun e w'=>e=.returned (.agg (Cf.cells (yC s)).toArray)∧Below w.heap.size w w':=by
 obtain ⟨a0,a1,a2,a3,a4,a5,a6,a7,a8,a9,b0,b1,b2,c0,c1,c2⟩:=s
 have hI:∀ n:Int,Value.int .i64 n∈Su.cells ⟨a0,a1,a2,a3,a4,a5,a6,a7,a8,a9,b0,b1,b2,c0,c1,c2⟩→-9223372036854775808≤n∧n≤9223372036854775807:=fun n hn=>by
  obtain ⟨m,e,h⟩:=hs _ hn;obtain rfl:n=m:=by injection e
  exact h
 obtain ⟨i00,i01⟩:=hI a0 (by simp [Su.cells]);obtain ⟨i10,i11⟩:=hI a1 (by simp [Su.cells]);obtain ⟨p20,p21⟩:=hI a2 (by simp [Su.cells]);obtain ⟨i30,i31⟩:=hI a3 (by simp [Su.cells]);obtain ⟨i40,i41⟩:=hI a4 (by simp [Su.cells]);obtain ⟨i50,i51⟩:=hI a5 (by simp [Su.cells]);obtain ⟨i60,i61⟩:=hI a6 (by simp [Su.cells]);obtain ⟨i70,i71⟩:=hI a7 (by simp [Su.cells]);obtain ⟨i80,i81⟩:=hI a8 (by simp [Su.cells]);obtain ⟨i90,i91⟩:=hI a9 (by simp [Su.cells]);obtain ⟨i20,i21⟩:=hI b0 (by simp [Su.cells]);obtain ⟨j20,j21⟩:=hI b1 (by simp [Su.cells]);obtain ⟨k20,k21⟩:=hI b2 (by simp [Su.cells]);obtain ⟨l20,l21⟩:=hI c0 (by simp [Su.cells]);obtain ⟨m20,m21⟩:=hI c1 (by simp [Su.cells]);obtain ⟨n20,n21⟩:=hI c2 (by simp [Su.cells]);clear hs hI
 have ht:-20<Int.tmod c2 20∧Int.tmod c2 20<20:=by
  have h1:=Int.tmod_lt_of_pos c2 (b:=20) (by decide);have h2:=Int.lt_tmod_of_pos c2 (b:=20) (by decide);omega
 have t20:-9223372036854775808≤Int.tmod c2 20:=by omega
 have t21:Int.tmod c2 20≤9223372036854775807:=by omega
 have q0:=cP a0 (m:=8) (by decide);have q2:=cP a2 (m:=20) (by decide);have q1:=cP a1 (m:=20 - (1+pk a2 20)+1) (by omega);have q5:=cP a5 (m:=5) (by decide);have q6:=cP a6 (m:=6) (by decide);have q7:=cP a7 (m:=4) (by decide);have w0:IntKind.i64.wrap (1+pk a0 8)=1+pk a0 8:=IL _ (by omega);have w2:IntKind.i64.wrap (1+pk a2 20)=1+pk a2 20:=IL _ (by omega);have w5:IntKind.i64.wrap (1+pk a5 5)=1+pk a5 5:=IL _ (by omega);have w6:IntKind.i64.wrap (1+pk a6 6)=1+pk a6 6:=IL _ (by omega);have w7:IntKind.i64.wrap (1+pk a7 4)=1+pk a7 4:=IL _ (by omega);have v0:IntKind.i64.wrap (20 - (1+pk a2 20))=20 - (1+pk a2 20):=IL _ (by omega);have v1:IntKind.i64.wrap (20 - (1+pk a2 20)+1)=20 - (1+pk a2 20)+1:=IL _ (by omega);have v2:IntKind.i64.wrap (1+pk a2 20+pk a1 (20 - (1+pk a2 20)+1))=1+pk a2 20+pk a1 (20 - (1+pk a2 20)+1):=IL _ (by omega);have v3:IntKind.i64.wrap (Int.tmod c2 20)=Int.tmod c2 20:=IL _ (by omega);go_enter Tryz.func25,Tryz.ntmps25;unfold Su.cells;go_wp2_with (first|(go_at_call 33;refine (cz _ _ _ (by assumption) (by assumption) (by omega) (by omega)).mono ?_;rintro e w1 ⟨rfl,rfl⟩)|(go_at_call 48;refine (dh b0 b1 b2 _ i20 i21 j20 j21 k20 k21).mono ?_;rintro e w2 ⟨rfl,hb2⟩;have hz2:wb.heap.size≤w2.heap.size:=(by have:=hb2.size;simpa using this))|(go_at_call 49;refine (dw c0 c1 (Int.tmod c2 20) _ l20 l21 m20 m21 t20 t21).mono ?_;rintro e w3 ⟨rfl,hb3⟩;have hz3:=hb3.size));refine aW _ (fun wb hwb=>?_)
 have bwb:Below w.heap.size w wb:=by rw [hwb];exact ((Ic _ _).alloc (Ij _) _).alloc (by simp) _
 have hsz:wb.heap.size=w.heap.size+2:=by rw [hwb];simp
 have hbd:SuS w.heap.size ⟨a0,a1,a2,a3,a4,a5,a6,a7,a8,a9,b0,b1,b2,c0,c1,c2⟩ wb:=SuS.of (by rw [hwb];exact (If _ _ _ (by simp)).trans (au _ rfl))
 have hbe:wb.heap[w.heap.size+1]?=some (.cells (Cf.cells Cf.zero).toArray 34 (0,0)):=by rw [hwb];exact au _ (by simp)
 have hdz:wb.drew.heap.size=wb.heap.size:=rfl;have HE:=Ib hbe;have HB:=Ib bwb;have HD:=Ib hbd;clear hwb bwb hbe hbd;refine Zr (fun w':World=>w'.cell? ⟨w.heap.size,0,none⟩=some (.int .i64 a0)∧w'.cell? ⟨w.heap.size,1,none⟩=some (.int .i64 a1)∧w'.cell? ⟨w.heap.size,3,none⟩=some (.int .i64 a3)∧w'.cell? ⟨w.heap.size,4,none⟩=some (.int .i64 a4)∧w'.cell? ⟨w.heap.size,5,none⟩=some (.int .i64 a5)∧w'.cell? ⟨w.heap.size,6,none⟩=some (.int .i64 a6)∧w'.cell? ⟨w.heap.size,7,none⟩=some (.int .i64 a7)∧w'.cell? ⟨w.heap.size,8,none⟩=some (.int .i64 a8)∧w'.cell? ⟨w.heap.size,9,none⟩=some (.int .i64 a9)∧w'.cell? ⟨w.heap.size,10,none⟩=some (.int .i64 b0)∧w'.cell? ⟨w.heap.size,11,none⟩=some (.int .i64 b1)∧w'.cell? ⟨w.heap.size,12,none⟩=some (.int .i64 b2)∧w'.cell? ⟨w.heap.size,13,none⟩=some (.int .i64 c0)∧w'.cell? ⟨w.heap.size,14,none⟩=some (.int .i64 c1)∧w'.cell? ⟨w.heap.size,15,none⟩=some (.int .i64 c2)) (fun hHeld=>?_) (by (try dsimp only);(first|exact HD.out|exact hHeld|exact SuS.below (s:=⟨a0,a1,a2,a3,a4,a5,a6,a7,a8,a9,b0,b1,b2,c0,c1,c2⟩) hHeld hb2 (by omega)|exact SuS.below (s:=⟨a0,a1,a2,a3,a4,a5,a6,a7,a8,a9,b0,b1,b2,c0,c1,c2⟩) hHeld hb3 (by omega)|exact SuS.row (s:=⟨a0,a1,a2,a3,a4,a5,a6,a7,a8,a9,b0,b1,b2,c0,c1,c2⟩) hHeld (by omega) _));refine dd 0 ?_;refine eP 4 ?_;refine dd 8 ?_;refine dd 12 ?_;refine Zt 14 ?_;refine dd 16 ?_;refine dd 19 ?_;refine dd 23 ?_;refine dd 27 ?_;refine dd 31 ?_;refine dd 34 ?_;refine eB 37 ?_;refine Zt 45 ?_;refine eB 47 ?_;refine dd 55 ?_;refine Z1 2 (fun K hK=>?_);go_simp;(first|(go_at_call 33;refine (cz _ _ _ (by assumption) (by assumption) (by omega) (by omega)).mono ?_;rintro e w1 ⟨rfl,rfl⟩)|(go_at_call 48;refine (dh b0 b1 b2 _ i20 i21 j20 j21 k20 k21).mono ?_;rintro e w2 ⟨rfl,hb2⟩;have hz2:wb.heap.size≤w2.heap.size:=(by have:=hb2.size;simpa using this))|(go_at_call 49;refine (dw c0 c1 (Int.tmod c2 20) _ l20 l21 m20 m21 t20 t21).mono ?_;rintro e w3 ⟨rfl,hb3⟩;have hz3:=hb3.size));(try go_wp2_with fail);refine Zk hK (hS:=by (try dsimp only);(first|exact HD.out|exact hHeld|exact SuS.below (s:=⟨a0,a1,a2,a3,a4,a5,a6,a7,a8,a9,b0,b1,b2,c0,c1,c2⟩) hHeld hb2 (by omega)|exact SuS.below (s:=⟨a0,a1,a2,a3,a4,a5,a6,a7,a8,a9,b0,b1,b2,c0,c1,c2⟩) hHeld hb3 (by omega)|exact SuS.row (s:=⟨a0,a1,a2,a3,a4,a5,a6,a7,a8,a9,b0,b1,b2,c0,c1,c2⟩) hHeld (by omega) _)) fun hHeld=>?_;clear hK K;refine Zt 3 ?_;refine Z1 10 (fun K hK=>?_);go_simp;(first|(go_at_call 33;refine (cz _ _ _ (by assumption) (by assumption) (by omega) (by omega)).mono ?_;rintro e w1 ⟨rfl,rfl⟩)|(go_at_call 48;refine (dh b0 b1 b2 _ i20 i21 j20 j21 k20 k21).mono ?_;rintro e w2 ⟨rfl,hb2⟩;have hz2:wb.heap.size≤w2.heap.size:=(by have:=hb2.size;simpa using this))|(go_at_call 49;refine (dw c0 c1 (Int.tmod c2 20) _ l20 l21 m20 m21 t20 t21).mono ?_;rintro e w3 ⟨rfl,hb3⟩;have hz3:=hb3.size));(try go_wp2_with fail);refine Zk hK (hS:=by (try dsimp only);(first|exact HD.out|exact hHeld|exact SuS.below (s:=⟨a0,a1,a2,a3,a4,a5,a6,a7,a8,a9,b0,b1,b2,c0,c1,c2⟩) hHeld hb2 (by omega)|exact SuS.below (s:=⟨a0,a1,a2,a3,a4,a5,a6,a7,a8,a9,b0,b1,b2,c0,c1,c2⟩) hHeld hb3 (by omega)|exact SuS.row (s:=⟨a0,a1,a2,a3,a4,a5,a6,a7,a8,a9,b0,b1,b2,c0,c1,c2⟩) hHeld (by omega) _)) fun hHeld=>?_;clear hK K;refine Zt 11 ?_;refine Z1 15 (fun K hK=>?_);go_simp;(first|(go_at_call 33;refine (cz _ _ _ (by assumption) (by assumption) (by omega) (by omega)).mono ?_;rintro e w1 ⟨rfl,rfl⟩)|(go_at_call 48;refine (dh b0 b1 b2 _ i20 i21 j20 j21 k20 k21).mono ?_;rintro e w2 ⟨rfl,hb2⟩;have hz2:wb.heap.size≤w2.heap.size:=(by have:=hb2.size;simpa using this))|(go_at_call 49;refine (dw c0 c1 (Int.tmod c2 20) _ l20 l21 m20 m21 t20 t21).mono ?_;rintro e w3 ⟨rfl,hb3⟩;have hz3:=hb3.size));(try go_wp2_with fail);refine Zk hK (hS:=by (try dsimp only);(first|exact HD.out|exact hHeld|exact SuS.below (s:=⟨a0,a1,a2,a3,a4,a5,a6,a7,a8,a9,b0,b1,b2,c0,c1,c2⟩) hHeld hb2 (by omega)|exact SuS.below (s:=⟨a0,a1,a2,a3,a4,a5,a6,a7,a8,a9,b0,b1,b2,c0,c1,c2⟩) hHeld hb3 (by omega)|exact SuS.row (s:=⟨a0,a1,a2,a3,a4,a5,a6,a7,a8,a9,b0,b1,b2,c0,c1,c2⟩) hHeld (by omega) _)) fun hHeld=>?_;clear hK K;refine Z1 18 (fun K hK=>?_);go_simp;(first|(go_at_call 33;refine (cz _ _ _ (by assumption) (by assumption) (by omega) (by omega)).mono ?_;rintro e w1 ⟨rfl,rfl⟩)|(go_at_call 48;refine (dh b0 b1 b2 _ i20 i21 j20 j21 k20 k21).mono ?_;rintro e w2 ⟨rfl,hb2⟩;have hz2:wb.heap.size≤w2.heap.size:=(by have:=hb2.size;simpa using this))|(go_at_call 49;refine (dw c0 c1 (Int.tmod c2 20) _ l20 l21 m20 m21 t20 t21).mono ?_;rintro e w3 ⟨rfl,hb3⟩;have hz3:=hb3.size));(try go_wp2_with fail);refine Zk hK (hS:=by (try dsimp only);(first|exact HD.out|exact hHeld|exact SuS.below (s:=⟨a0,a1,a2,a3,a4,a5,a6,a7,a8,a9,b0,b1,b2,c0,c1,c2⟩) hHeld hb2 (by omega)|exact SuS.below (s:=⟨a0,a1,a2,a3,a4,a5,a6,a7,a8,a9,b0,b1,b2,c0,c1,c2⟩) hHeld hb3 (by omega)|exact SuS.row (s:=⟨a0,a1,a2,a3,a4,a5,a6,a7,a8,a9,b0,b1,b2,c0,c1,c2⟩) hHeld (by omega) _)) fun hHeld=>?_;clear hK K;refine Z1 21 (fun K hK=>?_);go_simp;(first|(go_at_call 33;refine (cz _ _ _ (by assumption) (by assumption) (by omega) (by omega)).mono ?_;rintro e w1 ⟨rfl,rfl⟩)|(go_at_call 48;refine (dh b0 b1 b2 _ i20 i21 j20 j21 k20 k21).mono ?_;rintro e w2 ⟨rfl,hb2⟩;have hz2:wb.heap.size≤w2.heap.size:=(by have:=hb2.size;simpa using this))|(go_at_call 49;refine (dw c0 c1 (Int.tmod c2 20) _ l20 l21 m20 m21 t20 t21).mono ?_;rintro e w3 ⟨rfl,hb3⟩;have hz3:=hb3.size));(try go_wp2_with fail);refine Zk hK (hS:=by (try dsimp only);(first|exact HD.out|exact hHeld|exact SuS.below (s:=⟨a0,a1,a2,a3,a4,a5,a6,a7,a8,a9,b0,b1,b2,c0,c1,c2⟩) hHeld hb2 (by omega)|exact SuS.below (s:=⟨a0,a1,a2,a3,a4,a5,a6,a7,a8,a9,b0,b1,b2,c0,c1,c2⟩) hHeld hb3 (by omega)|exact SuS.row (s:=⟨a0,a1,a2,a3,a4,a5,a6,a7,a8,a9,b0,b1,b2,c0,c1,c2⟩) hHeld (by omega) _)) fun hHeld=>?_;clear hK K;refine Zt 22 ?_;refine Z1 25 (fun K hK=>?_);go_simp;(first|(go_at_call 33;refine (cz _ _ _ (by assumption) (by assumption) (by omega) (by omega)).mono ?_;rintro e w1 ⟨rfl,rfl⟩)|(go_at_call 48;refine (dh b0 b1 b2 _ i20 i21 j20 j21 k20 k21).mono ?_;rintro e w2 ⟨rfl,hb2⟩;have hz2:wb.heap.size≤w2.heap.size:=(by have:=hb2.size;simpa using this))|(go_at_call 49;refine (dw c0 c1 (Int.tmod c2 20) _ l20 l21 m20 m21 t20 t21).mono ?_;rintro e w3 ⟨rfl,hb3⟩;have hz3:=hb3.size));(try go_wp2_with fail);refine Zk hK (hS:=by (try dsimp only);(first|exact HD.out|exact hHeld|exact SuS.below (s:=⟨a0,a1,a2,a3,a4,a5,a6,a7,a8,a9,b0,b1,b2,c0,c1,c2⟩) hHeld hb2 (by omega)|exact SuS.below (s:=⟨a0,a1,a2,a3,a4,a5,a6,a7,a8,a9,b0,b1,b2,c0,c1,c2⟩) hHeld hb3 (by omega)|exact SuS.row (s:=⟨a0,a1,a2,a3,a4,a5,a6,a7,a8,a9,b0,b1,b2,c0,c1,c2⟩) hHeld (by omega) _)) fun hHeld=>?_;clear hK K;refine Zt 26 ?_;refine Z1 29 (fun K hK=>?_);go_simp;(first|(go_at_call 33;refine (cz _ _ _ (by assumption) (by assumption) (by omega) (by omega)).mono ?_;rintro e w1 ⟨rfl,rfl⟩)|(go_at_call 48;refine (dh b0 b1 b2 _ i20 i21 j20 j21 k20 k21).mono ?_;rintro e w2 ⟨rfl,hb2⟩;have hz2:wb.heap.size≤w2.heap.size:=(by have:=hb2.size;simpa using this))|(go_at_call 49;refine (dw c0 c1 (Int.tmod c2 20) _ l20 l21 m20 m21 t20 t21).mono ?_;rintro e w3 ⟨rfl,hb3⟩;have hz3:=hb3.size));(try go_wp2_with fail);refine Zk hK (hS:=by (try dsimp only);(first|exact HD.out|exact hHeld|exact SuS.below (s:=⟨a0,a1,a2,a3,a4,a5,a6,a7,a8,a9,b0,b1,b2,c0,c1,c2⟩) hHeld hb2 (by omega)|exact SuS.below (s:=⟨a0,a1,a2,a3,a4,a5,a6,a7,a8,a9,b0,b1,b2,c0,c1,c2⟩) hHeld hb3 (by omega)|exact SuS.row (s:=⟨a0,a1,a2,a3,a4,a5,a6,a7,a8,a9,b0,b1,b2,c0,c1,c2⟩) hHeld (by omega) _)) fun hHeld=>?_;clear hK K;refine Zt 30 ?_;refine Z1 33 (fun K hK=>?_);go_simp;(first|(go_at_call 33;refine (cz _ _ _ (by assumption) (by assumption) (by omega) (by omega)).mono ?_;rintro e w1 ⟨rfl,rfl⟩)|(go_at_call 48;refine (dh b0 b1 b2 _ i20 i21 j20 j21 k20 k21).mono ?_;rintro e w2 ⟨rfl,hb2⟩;have hz2:wb.heap.size≤w2.heap.size:=(by have:=hb2.size;simpa using this))|(go_at_call 49;refine (dw c0 c1 (Int.tmod c2 20) _ l20 l21 m20 m21 t20 t21).mono ?_;rintro e w3 ⟨rfl,hb3⟩;have hz3:=hb3.size));(try go_wp2_with fail);refine Zk hK (hS:=by (try dsimp only);(first|exact HD.out|exact hHeld|exact SuS.below (s:=⟨a0,a1,a2,a3,a4,a5,a6,a7,a8,a9,b0,b1,b2,c0,c1,c2⟩) hHeld hb2 (by omega)|exact SuS.below (s:=⟨a0,a1,a2,a3,a4,a5,a6,a7,a8,a9,b0,b1,b2,c0,c1,c2⟩) hHeld hb3 (by omega)|exact SuS.row (s:=⟨a0,a1,a2,a3,a4,a5,a6,a7,a8,a9,b0,b1,b2,c0,c1,c2⟩) hHeld (by omega) _)) fun hHeld=>?_;clear hK K;refine Z1 36 (fun K hK=>?_);go_simp;(first|(go_at_call 33;refine (cz _ _ _ (by assumption) (by assumption) (by omega) (by omega)).mono ?_;rintro e w1 ⟨rfl,rfl⟩)|(go_at_call 48;refine (dh b0 b1 b2 _ i20 i21 j20 j21 k20 k21).mono ?_;rintro e w2 ⟨rfl,hb2⟩;have hz2:wb.heap.size≤w2.heap.size:=(by have:=hb2.size;simpa using this))|(go_at_call 49;refine (dw c0 c1 (Int.tmod c2 20) _ l20 l21 m20 m21 t20 t21).mono ?_;rintro e w3 ⟨rfl,hb3⟩;have hz3:=hb3.size));(try go_wp2_with fail);refine Zk hK (hS:=by (try dsimp only);(first|exact HD.out|exact hHeld|exact SuS.below (s:=⟨a0,a1,a2,a3,a4,a5,a6,a7,a8,a9,b0,b1,b2,c0,c1,c2⟩) hHeld hb2 (by omega)|exact SuS.below (s:=⟨a0,a1,a2,a3,a4,a5,a6,a7,a8,a9,b0,b1,b2,c0,c1,c2⟩) hHeld hb3 (by omega)|exact SuS.row (s:=⟨a0,a1,a2,a3,a4,a5,a6,a7,a8,a9,b0,b1,b2,c0,c1,c2⟩) hHeld (by omega) _)) fun hHeld=>?_;clear hK K;refine Z1 46 (fun K hK=>?_);go_simp;(first|(go_at_call 33;refine (cz _ _ _ (by assumption) (by assumption) (by omega) (by omega)).mono ?_;rintro e w1 ⟨rfl,rfl⟩)|(go_at_call 48;refine (dh b0 b1 b2 _ i20 i21 j20 j21 k20 k21).mono ?_;rintro e w2 ⟨rfl,hb2⟩;have hz2:wb.heap.size≤w2.heap.size:=(by have:=hb2.size;simpa using this))|(go_at_call 49;refine (dw c0 c1 (Int.tmod c2 20) _ l20 l21 m20 m21 t20 t21).mono ?_;rintro e w3 ⟨rfl,hb3⟩;have hz3:=hb3.size));(try go_wp2_with fail);refine Zk hK (hS:=by (try dsimp only);(first|exact HD.out|exact hHeld|exact SuS.below (s:=⟨a0,a1,a2,a3,a4,a5,a6,a7,a8,a9,b0,b1,b2,c0,c1,c2⟩) hHeld hb2 (by omega)|exact SuS.below (s:=⟨a0,a1,a2,a3,a4,a5,a6,a7,a8,a9,b0,b1,b2,c0,c1,c2⟩) hHeld hb3 (by omega)|exact SuS.row (s:=⟨a0,a1,a2,a3,a4,a5,a6,a7,a8,a9,b0,b1,b2,c0,c1,c2⟩) hHeld (by omega) _)) fun hHeld=>?_;clear hK K;refine Z1 57 (fun K hK=>?_);go_simp;(first|(go_at_call 33;refine (cz _ _ _ (by assumption) (by assumption) (by omega) (by omega)).mono ?_;rintro e w1 ⟨rfl,rfl⟩)|(go_at_call 48;refine (dh b0 b1 b2 _ i20 i21 j20 j21 k20 k21).mono ?_;rintro e w2 ⟨rfl,hb2⟩;have hz2:wb.heap.size≤w2.heap.size:=(by have:=hb2.size;simpa using this))|(go_at_call 49;refine (dw c0 c1 (Int.tmod c2 20) _ l20 l21 m20 m21 t20 t21).mono ?_;rintro e w3 ⟨rfl,hb3⟩;have hz3:=hb3.size));(try go_wp2_with fail);refine Zk hK (hS:=by (try dsimp only);(first|exact HD.out|exact hHeld|exact SuS.below (s:=⟨a0,a1,a2,a3,a4,a5,a6,a7,a8,a9,b0,b1,b2,c0,c1,c2⟩) hHeld hb2 (by omega)|exact SuS.below (s:=⟨a0,a1,a2,a3,a4,a5,a6,a7,a8,a9,b0,b1,b2,c0,c1,c2⟩) hHeld hb3 (by omega)|exact SuS.row (s:=⟨a0,a1,a2,a3,a4,a5,a6,a7,a8,a9,b0,b1,b2,c0,c1,c2⟩) hHeld (by omega) _)) fun hHeld=>?_;clear hK K;refine Zw 58 ?_ (hy:=mW (by rfl) 34 (.tmp 11) (.tmp 19) (.tmp 20) (.tmp 23) (.tmp 26) (.tmp 30) (.tmp 34) (.tmp 38) (.tmp 41) (.tmp 44) (.tmp 54) (.tmp 65) rfl _ _ _ _ _ _ _ _ _ _ _ _ rfl rfl rfl rfl rfl rfl rfl rfl rfl rfl rfl rfl (Cf.cells (yC ⟨a0,a1,a2,a3,a4,a5,a6,a7,a8,a9,b0,b1,b2,c0,c1,c2⟩)).toArray (Em _ _ _ _ _ _ _ _ _ _ _ _ _ _ _ _));refine Z1 59 (fun K hK=>?_);rw [if_pos (by rfl)];refine IQ 34 (.tmp 2) (.tmp 66) rfl (w.heap.size+1) (Cf.cells (yC ⟨a0,a1,a2,a3,a4,a5,a6,a7,a8,a9,b0,b1,b2,c0,c1,c2⟩)).toArray rfl rfl 34 (Cf.cells Cf.zero).toArray (ai hb3 (ai hb2 HE.out (by omega)) (by omega)) (tW _) rfl (D5 _) ?_;refine Zk hK (hS:=by (try dsimp only);(first|exact HD.out|exact hHeld|exact SuS.below (s:=⟨a0,a1,a2,a3,a4,a5,a6,a7,a8,a9,b0,b1,b2,c0,c1,c2⟩) hHeld hb2 (by omega)|exact SuS.below (s:=⟨a0,a1,a2,a3,a4,a5,a6,a7,a8,a9,b0,b1,b2,c0,c1,c2⟩) hHeld hb3 (by omega)|exact SuS.row (s:=⟨a0,a1,a2,a3,a4,a5,a6,a7,a8,a9,b0,b1,b2,c0,c1,c2⟩) hHeld (by omega) _)) fun hHeld=>?_;clear hK K;refine Zd ?_;go_wp2_with fail;refine IM (v:=.agg (Cf.cells (yC ⟨a0,a1,a2,a3,a4,a5,a6,a7,a8,a9,b0,b1,b2,c0,c1,c2⟩)).toArray) (results_cell_row rfl _ _ (w.heap.size+1) 34 (Cf.cells (yC ⟨a0,a1,a2,a3,a4,a5,a6,a7,a8,a9,b0,b1,b2,c0,c1,c2⟩)).toArray (0,0) _ rfl (aX (ai hb3 (ai hb2 HE.out (by omega)) (by omega))) Tryz.underlying34 rfl (tW _)) rfl ⟨rfl,?_⟩;exact aQ ((HB.out.drew.trans (hb2.mono (by omega))).trans (hb3.mono (by omega))) (by omega)
theorem GY {X:Wd} (e:Ev):(nG (ib X e).2).length≤1:=by
 exact Q57
def nY (X:Wd) (k:Nat):kY:=(List.range k).foldl (fun P b=>sE P (ff (1000+(b:Nat)) (b:Nat) (2+(b:Nat)))) ⟨[],X,[]⟩
theorem gz (X:Wd) (k:Nat):nY X (k+1)=sE (nY X k) (ff (1000+(k:Nat)) (k:Nat) (2+(k:Nat))):=by
 unfold nY;rw [List.range_succ,List.foldl_append]
 rfl
theorem ue (X:Wd):begP X=sE (nY X 3) gT:=by
 rw [gz,gz,gz]
 rfl
theorem GF (P:kY) (e:Ev):(sE P e).steps.length=P.steps.length+1:=by simp [sE]
theorem BC (P:kY) (e:Ev):(sE P e).given.length≤P.given.length+1:=by
 have:=GY (X:=P.last) e;simp [sE];omega
structure PlyAt (c:Cf) (P:kY) (n:Nat):Prop where
 ok:zU c P
 len:P.steps.length=n
 gl:P.given.length≤n
theorem PlyAt.doP {c:Cf} {P:kY} {n:Nat} (h:PlyAt c P n) {e:Ev} (he:EvGood e) (hn:n≤100000):PlyAt c (sE P e) (n+1):=
 ⟨doP_ok h.ok he (by rw [h.len];omega),by rw [GF,h.len],IG (BC P e) (Nat.succ_le_succ h.gl)⟩
theorem FJ {c:Cf} (h:j4 c):PlyAt c ⟨[],di c,[]⟩ 0:=
 ⟨⟨beg_wd h,rfl,fun _ hx=>absurd hx (by simp),fun _ hx=>absurd hx (by simp),by show (0:Int)≤_;simp⟩,rfl,Ij _⟩
theorem tX {k:Nat} (hk:k<3):EvGood (ff (1000+(k:Nat)) (k:Nat) (2+(k:Nat))):=sw (by omega) (by omega) (by omega) (by omega) (by omega) (by omega)
theorem gs {c:Cf} (h:j4 c):∀ {k:Nat},k≤3→PlyAt c (nY (di c) k) k
 | 0,_=>FJ h
 | k+1,hk=>by
  rw [gz];exact (gs h (k:=k) (by omega)).doP (tX (by omega)) (by omega)
theorem rY {c:Cf} (h:j4 c):PlyAt c (begP (di c)) 4:=by
 rw [ue];exact (gs h (Ij 3)).doP kQ (by omega)
theorem qJ {c:Cf}:∀ (L:List Dd) {P:kY} {n:Nat},PlyAt c P n→n+L.length≤100000→PlyAt c (L.foldl wJ P) (n+L.length)
 | [],_,_,h,_=>h
 | d :: L,P,n,h,hn=>by
  rw [List.foldl_cons];have h1:=qJ L (P:=wJ P d) (h.doP (qG h.ok.gi d) (by simp at hn;omega)) (by simp at hn ⊢;omega);rw [show n+(d :: L).length=n+1+L.length by simp;omega];exact h1
theorem jD {c:Cf} (h:j4 c) (L:List Dd) {most:Nat} (hm:most≤1000):PlyAt c (fW (di c) L most) (4+(L.take most).length):=
 qJ _ (rY h) (by simp;omega)
theorem AD (X:Wd) (L:List Dd) {k:Nat} (hk:k<L.length) (d0:Dd):fW X L (k+1)=sE (fW X L k) (I0 (fW X L k).given (L.getD k d0)):=by
 unfold fW;rw [Ir hk,List.foldl_append,aK hk]
 rfl
theorem vW {c:Cf} {Q:kY→Prop} {N:Nat} (hN:N≤2000) (hs:∀ P n e,PlyAt c P n→n<N→EvGood e→Q P→Q (sE P e)):∀ (L:List Dd) {P:kY} {n:Nat},PlyAt c P n→n+L.length≤N→Q P→Q (L.foldl wJ P)
 | [],_,_,_,_,h=>h
 | d :: L,P,n,h,hn,q=>by
  have hg:=qG h.ok.gi d;exact vW hN hs L (P:=wJ P d) (n:=n+1) (h.doP hg (by simp at hn;omega)) (by simp at hn ⊢;omega) (hs P n _ h (by simp at hn;omega) hg q)
theorem CL {c:Cf} (hc:j4 c) {Q:kY→Prop} (L:List Dd) {most:Nat} (hm:most≤1000) (h0:Q ⟨[],di c,[]⟩) (hs:∀ P n e,PlyAt c P n→n<4+most→EvGood e→Q P→Q (sE P e)):Q (fW (di c) L most):=by
 have j:∀ k,k≤3→Q (nY (di c) k):=by
  intro k
  induction k with
  | zero=>intro _;exact h0
  | succ k ih=>intro hk;rw [gz];exact hs _ k _ (gs hc (by omega)) (by omega) (tX (by omega)) (ih (by omega))
 refine vW (N:=4+most) (by omega) hs _ (rY hc) (by simp;omega) ?_;rw [ue];exact hs _ 3 _ (gs hc (Ij 3)) (by omega) kQ (j 3 (Ij 3))
def Dd.zero:Dd:=⟨0,0,0,0⟩
end
section
open Go.ChangeShapes Go.WideShapes Go.ChangeAt Go.RowKit
def su (P:Program):Nat→TypeId→Bool
 | 0,_=>false
 | n+1,t=>
  match P.underlying t with
  | some (.int .i64)=>true
  | some (.struct fs)=>(List.range (P.cellsOf t)).all fun j=>fs.toList.any fun f=>decide (f.offset≤j) && decide (j<f.offset+P.cellsOf f.type) && su P n f.type
  | some (.array k e)=>decide (0<P.cellsOf e) && decide (P.cellsOf t=k*P.cellsOf e) && su P n e
  | _=>false
section
variable {H:Type} {enc:TypeId×Value→H} {P:Program} {w:World} {base:Nat} {spare:Nat→Bool} {held:Bool}
theorem ze {α:Type} {cs:List α} {o c j:Nat} (h1:o≤j) (h2:j<o+c) (hj:j<cs.length):j - o<((cs.drop o).take c).length∧((cs.drop o).take c)[j - o]?=cs[j]?:=by
 refine ⟨by simp;omega,?_⟩;rw [List.getElem?_take,if_pos (by omega),List.getElem?_drop]
 congr 1;omega
theorem tU:∀ (n:Nat) (t:TypeId),su P n t=true→∀ (fuel:Nat) (cs:List Value) (x:DataW H×List MemPlace),DataW.trod enc P w base spare held fuel t cs=some x→∀ j,j<cs.length→∃ m,cs[j]?=some (.int .i64 m)∧(Lit.int .i64 m).wf=true:=by
 intro n
 induction n with
 | zero=>intro t h;simp [su] at h
 | succ n ih=>
  intro t h fuel cs x hx j hj;unfold su at h
  split at h
  ·rename_i hk
   have hf:dC [some .i64] cs:=mF 1 t [some .i64] (by unfold jS;rw [hk]) fuel cs x hx;obtain ⟨a,c,rfl,wa,hc⟩:=jy hf;obtain rfl:=sQ hc
   have:j=0:=by simp at hj;omega
   subst this;exact ⟨a,rfl,wa⟩
  ·rename_i fs hk
   obtain ⟨xs,m,rfl,rfl,hlen,hxl,hf⟩:=DataW.trod_struct hk hx;rw [List.all_eq_true] at h;have h1:=h j (List.mem_range.2 (by omega));rw [List.any_eq_true] at h1;obtain ⟨f,hfm,h2⟩:=h1;simp only [Bool.and_eq_true,decide_eq_true_eq] at h2;obtain ⟨i,hi,hfi⟩:=List.mem_iff_getElem.1 hfm;have g1:fs[i]?=some f:=by rw [← IT,Is hi,hfi]
   have g2:=hf i f g1
   have hi':i<xs.length:=by rw [hxl];simpa using hi
   rw [Is hi'] at g2;obtain ⟨s1,s2⟩:=ze h2.1.1 h2.1.2 hj;obtain ⟨v,e,wv⟩:=ih f.type h2.2 _ _ _ g2 _ s1;exact ⟨v,by rw [← s2];exact e,wv⟩
  ·rename_i k e hk
   simp only [Bool.and_eq_true,decide_eq_true_eq] at h;obtain ⟨xs,m,rfl,rfl,hlen,hxl,hf⟩:=DataW.trod_array hk hx
   have hd:j / P.cellsOf e<k:=by rw [Nat.div_lt_iff_lt_mul h.1.1];omega
   have g2:=hf _ hd;have hi':j / P.cellsOf e<xs.length:=by omega
   rw [Is hi'] at g2;have hm:=Nat.div_add_mod j (P.cellsOf e);have hl:=Nat.mod_lt j h.1.1;have hcm:=Nat.mul_comm (P.cellsOf e) (j / P.cellsOf e);obtain ⟨s1,s2⟩:=ze (cs:=cs) (o:=j / P.cellsOf e*P.cellsOf e) (c:=P.cellsOf e) (j:=j) (by omega) (by omega) hj;obtain ⟨v,ev,wv⟩:=ih e h.2 _ _ _ g2 _ s1;exact ⟨v,by rw [← s2];exact ev,wv⟩
  ·cases h
theorem AI {t:TypeId} {v:Value} {d:DataW H} {p:List MemPlace} {fs:Array Field} (n:Nat) (hs:P.underlying t=some (.struct fs)) (hk:su P n t=true)
  (hv:Value.okWide P w .any base t v) (h:DataW.Trod enc P w 0 (fun _=>true) true t v d p):∃ cs:List Value,v=.agg cs.toArray∧cs.length=P.cellsOf t∧∀ j,j<cs.length→∃ m,cs[j]?=some (.int .i64 m)∧(Lit.int .i64 m).wf=true:=by
 unfold Value.okWide at hv
 rw [hs] at hv
 obtain ⟨cs,rfl,_,_⟩:=hv
 obtain ⟨fuel,hf⟩:=h
 have hf':DataW.trod enc P w 0 (fun _=>true) true fuel t cs.toList=some (d,p):=hf
 obtain ⟨_,_,_,_,hl,_⟩:=DataW.trod_struct hs hf'
 exact ⟨cs.toList,by simp,hl,tU n t hk fuel _ _ hf'⟩
end
section
variable {H:Type} {enc:TypeId×Value→H} {W:World} {base:Nat} {v:Value} {d:DataW H} {p:List MemPlace}
def Is_Setup (_:World) (v:Value):Prop:=∃ s:Su,v=.agg (Su.cells s).toArray∧SuI s
theorem opn_Setup (hv:Value.okWide Tryz.prog W .any base 24 v) (h:DataW.Trod enc Tryz.prog W 0 (fun _=>true) true 24 v d p) (_hz:∀ y∈d.weights Tryz.prog 24,y≤reachBytes):Is_Setup W v:=by
 obtain ⟨cs,rfl,hl,hc⟩:=AI 4 Tryz.underlying24 (by kernel_rfl) hv h;have hl:cs.length=16:=hl.trans (by kernel_rfl);obtain ⟨a0,e0,w0⟩:=hc 0 (by omega);obtain ⟨a1,e1,w1⟩:=hc 1 (by omega);obtain ⟨a2,e2,w2⟩:=hc 2 (by omega);obtain ⟨a3,e3,w3⟩:=hc 3 (by omega);obtain ⟨a4,e4,w4⟩:=hc 4 (by omega);obtain ⟨a5,e5,w5⟩:=hc 5 (by omega);obtain ⟨a6,e6,w6⟩:=hc 6 (by omega);obtain ⟨a7,e7,w7⟩:=hc 7 (by omega);obtain ⟨a8,e8,w8⟩:=hc 8 (by omega);obtain ⟨a9,e9,w9⟩:=hc 9 (by omega);obtain ⟨b0,e10,w10⟩:=hc 10 (by omega);obtain ⟨b1,e11,w11⟩:=hc 11 (by omega);obtain ⟨b2,e12,w12⟩:=hc 12 (by omega);obtain ⟨c0,e13,w13⟩:=hc 13 (by omega);obtain ⟨c1,e14,w14⟩:=hc 14 (by omega);obtain ⟨c2,e15,w15⟩:=hc 15 (by omega)
 have he:cs=Su.cells ⟨a0,a1,a2,a3,a4,a5,a6,a7,a8,a9,b0,b1,b2,c0,c1,c2⟩:=by
  refine List.ext_getElem? fun j=>?_
  match j with
  | 0=>rw [e0];rfl
  | 1=>rw [e1];rfl
  | 2=>rw [e2];rfl
  | 3=>rw [e3];rfl
  | 4=>rw [e4];rfl
  | 5=>rw [e5];rfl
  | 6=>rw [e6];rfl
  | 7=>rw [e7];rfl
  | 8=>rw [e8];rfl
  | 9=>rw [e9];rfl
  | 10=>rw [e10];rfl
  | 11=>rw [e11];rfl
  | 12=>rw [e12];rfl
  | 13=>rw [e13];rfl
  | 14=>rw [e14];rfl
  | 15=>rw [e15];rfl
  | j+16=>rw [IB (by omega),IB (by simp [Su.cells])]
 refine ⟨⟨a0,a1,a2,a3,a4,a5,a6,a7,a8,a9,b0,b1,b2,c0,c1,c2⟩,by rw [he],fun u hu=>?_⟩;simp only [Su.cells,List.mem_cons,List.not_mem_nil,or_false] at hu;rcases hu with rfl|rfl|rfl|rfl|rfl|rfl|rfl|rfl|rfl|rfl|rfl|rfl|rfl|rfl|rfl|rfl
 ·exact ⟨_,rfl,bounds_i64 w0⟩
 ·exact ⟨_,rfl,bounds_i64 w1⟩
 ·exact ⟨_,rfl,bounds_i64 w2⟩
 ·exact ⟨_,rfl,bounds_i64 w3⟩
 ·exact ⟨_,rfl,bounds_i64 w4⟩
 ·exact ⟨_,rfl,bounds_i64 w5⟩
 ·exact ⟨_,rfl,bounds_i64 w6⟩
 ·exact ⟨_,rfl,bounds_i64 w7⟩
 ·exact ⟨_,rfl,bounds_i64 w8⟩
 ·exact ⟨_,rfl,bounds_i64 w9⟩
 ·exact ⟨_,rfl,bounds_i64 w10⟩
 ·exact ⟨_,rfl,bounds_i64 w11⟩
 ·exact ⟨_,rfl,bounds_i64 w12⟩
 ·exact ⟨_,rfl,bounds_i64 w13⟩
 ·exact ⟨_,rfl,bounds_i64 w14⟩
 ·exact ⟨_,rfl,bounds_i64 w15⟩
theorem Dd.of_flat {cs:List Value} (h:dC [some .i64,some .i64,some .i64,some .i64] cs):∃ x:Dd,cs=[.int .i64 x.kind,.int .i64 x.a,.int .i64 x.b,.int .i64 x.c]∧(EZ x.kind∧EZ x.a∧EZ x.b∧EZ x.c):=by
 obtain ⟨a0,c0,rfl,w0,h0⟩:=jy h;obtain ⟨a1,c1,rfl,w1,h1⟩:=jy h0;obtain ⟨a2,c2,rfl,w2,h2⟩:=jy h1;obtain ⟨a3,c3,rfl,w3,h3⟩:=jy h2;obtain rfl:=sQ h3;exact ⟨⟨a0,a1,a2,a3⟩,rfl,kW w0,kW w1,kW w2,kW w3⟩
def Is_sl_Deed (W:World) (v:Value):Prop:=∃ X:List Dd,aG W 4 v (X.map fun x=>[.int .i64 x.kind,.int .i64 x.a,.int .i64 x.b,.int .i64 x.c])∧(∀ x∈X,EZ x.kind∧EZ x.a∧EZ x.b∧EZ x.c)∧X.length*32≤140737488351232
theorem opn_sl_Deed (hv:Value.okWide Tryz.prog W .any base 25 v) (h:DataW.Trod enc Tryz.prog W 0 (fun _=>true) true 25 v d p) (hz:∀ y∈d.weights Tryz.prog 25,y≤reachBytes):Is_sl_Deed W v:=by
 obtain ⟨L,hL⟩:=vw 6 Tryz.underlying25 (by kernel_rfl:jS Tryz.prog 6 97=some [some .i64,some .i64,some .i64,some .i64]) (by kernel_rfl:Tryz.prog.cellsOf 97=4) hv h hz;rw [show Tryz.prog.bytesOf 97=32 from by kernel_rfl] at hL;exact AH (by decide) (fun _=>Dd.of_flat) hL
end
end
end Go.Proofs.YtocbhafgjepnjaaGreat
