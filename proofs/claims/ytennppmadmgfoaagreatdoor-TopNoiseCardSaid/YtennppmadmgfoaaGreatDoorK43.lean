/- Texts of the row's proof. Conditions: none. -/
import Derived.Test.YtennppmadmgfoaaGreatDoorK42
namespace Go.Proofs.YtennppmadmgfoaaGreatDoor
open Proofs.Tryz
set_option maxRecDepth 100000
set_option maxHeartbeats 8000000
section
open Go.RowKit
structure WK (K:Nat->Prop) (w:World) (X:Wd) (V:Vs):Prop where
 ro:oV K w X V
 fl:dj K w 7 V.f (X.flows.map Fl.cells)
 he:dj K w 4 V.h (eO X V)
theorem WK.wa {K:Nat->Prop} {w:World} {X:Wd} {V:Vs} (h:WK K w X V):WA w X V:=⟨gY h.ro (fun _ _ _=>trivial),h.fl.1,h.he.1⟩
theorem WK.keep {h:Nat->Prop} {w w':World} {X:Wd} {V:Vs} (z:WK h w X V) (I:w.heap.size<=w'.heap.size) (E:∀ b,b<w.heap.size->h b->w'.heap[b]?=w.heap[b]?):WK h w' X V:=
 ⟨dK z.ro I E,bI z.fl I E,bI z.he I E⟩
theorem WK.imp {E K':Nat->Prop} {w:World} {X:Wd} {V:Vs} (h:WK E w X V) (z:∀ b,b<w.heap.size->E b->K' b):WK K' w X V:=⟨gY h.ro z,bU h.fl z,bU h.he z⟩
theorem G.wk {B p:Nat} {w:World} {X:Wd} {O:List Out} {S:List Nat} {V:Vs} {vo:Value} (h:G B p w X O S V vo):WK (fun b=>B<=b) w X V:=
 ⟨gY h.ro (fun _ _ z=>z.2),eE (aG h.of (by simp) (iU _)),eE (aG h.oh (eC h.ro.ml) (ni X V))⟩
def DoPost (w:World) (z:Wd) (O:List Out) (e:Ending) (w':World):Prop:=∃ h a c,e=.returned (.tuple #[.agg (dz z h).toArray,.slice a O.length c,.int .i64 0])/\WK (fun b=>w.heap.size<=b) w' z h/\aN w.heap.size w' 7 (.slice a O.length c) (O.map Out.cells)/\Below w.heap.size w w'
theorem mU {P:Program} {E:Func} {p q r:Tmp} {z:TypeId} (I:E.results=#[.cell p z,.tmp q,.tmp r]) (h:Array Value) (w:World) (g:Nat) (t:TypeId) (cs:Array Value) (fr:Nat×Nat) (d:TypeDesc) (u v:Value)
  (Y:h.getD p undef=.pointer (some ⟨g,0,none⟩)) (hq:h.getD q undef=u) (hr:h.getD r undef=v) (K:w.heap[g]?=some (.cells cs t fr))
  (hu:P.underlying z=some d) (J:(match d with|.struct _|.array _ _=>true|_=>false)=true) (U:(P.info? z).map (·.size)=some cs.size) :
  (results E h).run P w=.ok (.tuple #[.agg cs,u,v]) w:=by
 have Z:h[p]?.getD undef=.pointer (some ⟨g,0,none⟩):=by simpa using Y
 have a0:h[q]?.getD undef=u:=by simpa using hq
 have a1:h[r]?.getD undef=v:=by simpa using hr
 simp [results,I,Z,a0,a1,asAddr,run_loadVar_row w g t z cs fr d K hu J U]
theorem GJ {X:Wd} (h:GwMay X):KK X:=by
 refine ⟨by have:=h.tb.2.1;omega,by have:=h.len;omega,by have:=h.bk.1;omega,by have:=h.bk.2.1;omega,by have:=jA h.ring;omega,h.hl,fun z I=>?_,gT h,fun z I=>?_⟩
 ·have E:=fJ (h.ht z I);have:=E.2.2.2.1;have:=E.1.2.1;omega
 ·have U:=gT h
  have J:X.lists.getD z []∈X.lists:=by rw [aQ (by omega)];exact Lp _
  have E:(X.lists.getD z []).length<=X.lists.flatten.length:=(List.sublist_flatten_of_mem J).length_le;have K:X.lists.flatten.length=(ez X.now X.flows).length:=h.whp.length_eq;exact Q109
structure DoG (w wE:World) (p:Nat) (Y:Wd) (O:List Out) (V:Vs) (a:Option Addr) (c:Nat):Prop where
 hp:wE.heap[p]?=some (.cells (dz Y V++[Value.slice a O.length c]).toArray 134 (0,0))
 hz:wE.heap[w.heap.size+2]?=some (.cells bS 56 (0,0))
 ne:w.heap.size+2<p
 wk:WK (fun b=>w.heap.size+3<=b) wE Y V
 ro:aN (w.heap.size+3) wE 7 (.slice a O.length c) (O.map Out.cells)
 be:Below w.heap.size w wE
theorem DoG.of {w z I:World} {N p:Nat} {J:Wd} {O:List Out} {S U:List Nat} {V:Vs} {vo:Value} (h:G N p I J O U V vo) (Y:w.heap.size+3<=N) (Z:N<=z.heap.size) (bg:Below w.heap.size w z) (hz:z.heap[w.heap.size+2]?=some (.cells bS 56 (0,0))) (f:Fr S z I) (hS:∀ x∈S,N<=x) :
  ∃ a c,vo=.slice a O.length c/\DoG w I p J O V a c:=by
 obtain ⟨a,c,E,_⟩:=aE h.oo
 have K:=f.below Z hS
 refine ⟨a,c,E,⟨by rw [<- E];exact h.bk,(K.block _ (by omega)).trans hz,by have:=h.pB;omega,h.wk.imp (fun b _ hb=>by omega),?_,bg.trans (K.mono (by have:=bg.size;omega))⟩⟩
 rw [<- E]
 exact aJ (aG h.oo (by simp) (by intro c hc;obtain ⟨x,_,rfl⟩:=LH.1 hc;rfl)) Y
theorem wX {w:World} {p:Nat} {L:List Value} {v:Value} {T:TypeId} {fr:Nat×Nat} (h:w.heap[p]?=some (.cells (L++[v]).toArray T fr)):w.rangeAt p 0 L:=by
 intro j E hj
 have z:j<L.length:=by
  exact Q132
 rw [Nat.zero_add,ae h j,Le,LR z,hj]
theorem kH {z:Nat->Prop} {w:World} {X:Wd} {V:Vs} (h:WK z w X V):(dz X V).toArray.all (·.oneCell')=true:=by
 obtain ⟨_,_,E,_⟩:=h.ro.ta.1;obtain ⟨_,_,I,_⟩:=h.fl.1;obtain ⟨_,_,J,_⟩:=h.ro.li.1;obtain ⟨_,_,K,_⟩:=h.ro.re.1;obtain ⟨_,_,U,_⟩:=h.ro.sp.1;obtain ⟨_,_,Y,_⟩:=h.he.1;obtain ⟨_,_,Z⟩:=bL h.ro.wh.at_;exact Fb X (by rw [E];rfl) (by rw [I];rfl) (by rw [J];rfl) (by rw [K];rfl) (by rw [U];rfl) (by rw [Y];rfl) (by rw [Z];rfl)
theorem DoG.drew {w E:World} {p:Nat} {z:Wd} {O:List Out} {V:Vs} {a:Option Addr} {c:Nat} (h:DoG w E p z O V a c):DoG w E.drew p z O V a c:=
 ⟨h.hp,h.hz,h.ne,h.wk.keep (KY _) (fun _ _ _=>rfl),⟨(bI (eE h.ro) (KY _) (fun _ _ _=>rfl)).1,h.ro.2⟩,h.be.drew⟩
theorem DoG.fin {w h:World} {p:Nat} {E:Wd} {O:List Out} {V:Vs} {a:Option Addr} {c:Nat} (z:DoG w h p E O V a c) (arr:Array Value) :
  WK (fun b=>w.heap.size<=b) (h.setRow (w.heap.size+2) arr) E V/\aN w.heap.size (h.setRow (w.heap.size+2) arr) 7 (.slice a O.length c) (O.map Out.cells)/\Below w.heap.size w (h.setRow (w.heap.size+2) arr):=by
 have J:h.heap.size<=(h.setRow (w.heap.size+2) arr).heap.size:=by simp [World.setRow]
 have I:∀ b,b<h.heap.size->w.heap.size+3<=b->(h.setRow (w.heap.size+2) arr).heap[b]?=h.heap[b]?:=fun b _ U=>setRow_other _ _ _ _ (by omega)
 refine ⟨(z.wk.keep J I).imp (fun b _ U=>by omega),⟨(bI (eE z.ro) J I).1,fun a Y c K=>Lz (by omega) (z.ro.2 a Y c K)⟩,aV z.be (by omega)⟩
theorem Bc {w:World} {X:Wd} {V:Vs} (h:WA w X V) (hm:WdMay X) (ev:Ev) (he:jU ev 0) (hv:EvMay X ev):Calls prog 25 #[.agg (dz X V).toArray,.agg (Ev.cells ev).toArray] w (DoPost w (nM X ev).1 (nM X ev).2):=by
 have HW:=KL h;have HX:=KL hm;have HE:=KL he;have HV:=KL hv
 have aT:1<=ev.kind/\ev.kind<=7:=by rcases he with ⟨_,h⟩|⟨_,_,h⟩|⟨_,_,_,h⟩|⟨h,_⟩;omega;omega;omega;exact h
 obtain ⟨R,hR⟩:∃ R,R=nM X ev:=⟨_,rfl⟩;rw [<- hR];have HR:=KL hR;obtain ⟨Z,ky,sl,Y,U,rq,J,wt⟩:=ev;unfold Ev.cells;simp only at aT;obtain ⟨AW,ak⟩:∃ AW,AW=(dz X V).toArray:=⟨_,rfl⟩;rw [<- ak];have HA:=KL ak;have HI:=KL (show (prog.info? 56).map (·.size)=some AW.size by rw [ak];kernel_rfl);clear h hm he hv hR ak;have b0:Below w.heap.size w (((w.alloc (.cells AW 56 (0,0))).alloc (.cells #[.int .i64 Z,.int .i64 ky,.int .i64 sl,.int .i64 Y,.bool U,.int .i64 rq,.int .i64 J,.int .i64 wt] 61 (0,0))).alloc (.cells bS 56 (0,0))):=((((KM _ _).alloc (KY _) _).alloc (by simp) _).alloc (by simp;omega) _);have ay:(((w.alloc (.cells AW 56 (0,0))).alloc (.cells #[.int .i64 Z,.int .i64 ky,.int .i64 sl,.int .i64 Y,.bool U,.int .i64 rq,.int .i64 J,.int .i64 wt] 61 (0,0))).alloc (.cells bS 56 (0,0))).heap[w.heap.size]?=some (.cells AW 56 (0,0)):=(heap_alloc_old _ _ (by simp;omega)).trans ((heap_alloc_old _ _ (by simp)).trans (aB _ rfl));have ax:(((w.alloc (.cells AW 56 (0,0))).alloc (.cells #[.int .i64 Z,.int .i64 ky,.int .i64 sl,.int .i64 Y,.bool U,.int .i64 rq,.int .i64 J,.int .i64 wt] 61 (0,0))).alloc (.cells bS 56 (0,0))).heap[w.heap.size+1]?=some (.cells #[.int .i64 Z,.int .i64 ky,.int .i64 sl,.int .i64 Y,.bool U,.int .i64 rq,.int .i64 J,.int .i64 wt] 61 (0,0)):=(heap_alloc_old _ _ (by simp)).trans (aB _ (by simp));have aA:(((w.alloc (.cells AW 56 (0,0))).alloc (.cells #[.int .i64 Z,.int .i64 ky,.int .i64 sl,.int .i64 Y,.bool U,.int .i64 rq,.int .i64 J,.int .i64 wt] 61 (0,0))).alloc (.cells bS 56 (0,0))).heap[w.heap.size+2]?=some (.cells bS 56 (0,0)):=aB _ (by simp);have HK:=KL ay;have H0:=KL (And.intro b0 (And.intro ax aA));clear b0 ay ax aA;go_in;go_wp2_with (refine LO rfl 56 (.tmp 2) rfl w.heap.size rfl 56 AW (0,0) _ HK.out underlying56 rfl HI.out ?_);refine dA _ (fun W0 ar=>?_);have ao:=KL (show W0.heap[w.heap.size]?=some (.cells AW 56 (0,0)) by rw [ar];exact HK.out);have aa:=KL (show Below w.heap.size w W0/\W0.heap[w.heap.size+1]?=some (.cells #[.int .i64 Z,.int .i64 ky,.int .i64 sl,.int .i64 Y,.bool U,.int .i64 rq,.int .i64 J,.int .i64 wt] 61 (0,0))/\W0.heap[w.heap.size+2]?=some (.cells bS 56 (0,0)) by rw [ar];exact H0.out);clear ar HK H0;rw [HA.out];refine (Cu (HW.out.below aa.out.1) HX.out).mono ?_;rintro e w1 ⟨rfl,hb1⟩;rw [<- HA.out];have b1:=aa.out.1.trans (hb1.mono aa.out.1.size);have a4:=aj hb1 aa.out.2.1 (lt_of_block aa.out.2.1);have aF:=aj hb1 aa.out.2.2 (lt_of_block aa.out.2.2);have HK:=KL (aj hb1 ao.out (lt_of_block ao.out));have y0:=ae a4 0;have y1:=ae a4 1;have y2:=ae a4 2;have y3:=ae a4 3;have y4:=ae a4 4;have y5:=ae a4 5;have y6:=ae a4 6;have y7:=ae a4 7;simp only [Le,Lc,Lb] at y0 y1 y2 y3 y4 y5 y6 y7;have l1:=lt_of_block a4;have H1:=KL (And.intro b1 (And.intro a4 aF));clear hb1 b1 a4 aF;go_wp2_with fail;refine (xp Z ky sl Y U rq J wt 0 _ HE.out).mono ?_;rintro e w2 ⟨rfl,hb2⟩;have b2:=H1.out.1.trans (hb2.mono H1.out.1.size);have al:=aj hb2 H1.out.2.1 (lt_of_block H1.out.2.1);have aH:=aj hb2 H1.out.2.2 (lt_of_block H1.out.2.2);have am:=aj hb2 HK.out (lt_of_block HK.out);clear HK ao;have HK:=KL am;have y0:=ae al 0;have aL:=ae am 16;rw [HA.out,wdA] at aL;simp only [Le,Lc,Lb] at y0 aL;have l2:=lt_of_block al;have b6:=lt_of_block am;have H2:=KL (And.intro b2 (And.intro al aH));have aw:Z=7->X.now<1099511626776:=HV.out.tk
 have hg:(Z=7/\decide (Z=7)=true/\decide (X.now=1099511626776)=false)\/(Z≠7/\decide (Z=7)=false):=by
  by_cases g:Z=7
  ·refine Or.inl ⟨g,by simpa using g,?_⟩;have:=aw g;simp;omega
  ·exact Or.inr ⟨g,by simpa using g⟩
 have g3:Z=7->¬ X.now=1099511626776/\(X.now == 1099511626776)=false:=fun g=>by have:=aw g;exact ⟨by omega,by simp;omega⟩
 clear hb2 b2 al aH am aw y1 y2 y3 y4 y5 y6 y7 l1;rcases hg with ⟨rfl,g1,g2⟩|⟨g0,g1⟩
 ·obtain ⟨g4,g5⟩:=g3 rfl;clear g3;go_wp2_with (refine LO rfl 56 (.tmp 2) rfl w.heap.size rfl 56 AW (0,0) _ HK.out underlying56 rfl HI.out ?_);refine dA _ (fun W3 ab=>?_);have a3:=KL (show Below w.heap.size w W3/\W3.heap[w.heap.size+1]?=some (.cells #[.int .i64 7,.int .i64 ky,.int .i64 sl,.int .i64 Y,.bool U,.int .i64 rq,.int .i64 J,.int .i64 wt] 61 (0,0))/\W3.heap[w.heap.size+2]?=some (.cells bS 56 (0,0)) by rw [ab];exact H2.out);clear ab;rw [HA.out];refine (pq (HW.out.below a3.out.1) (GJ HX.out.gw)).mono ?_;rintro e w3 ⟨V2,rfl,af,hb3,a9⟩;obtain ⟨an,a6⟩:∃ A,A=(dz X V2).toArray:=⟨_,rfl⟩;rw [<- a6]
  have b5:an.size=26:=by rw [a6];rfl
  have a8:=KL a6
  have hN3:w.heap.size+3<=W3.heap.size+2:=by have:=lt_of_block a3.out.2.2;omega
  have b3:=a3.out.1.trans (hb3.mono a3.out.1.size);have a7:=aj hb3 a3.out.2.1 (lt_of_block a3.out.2.1);have ag:=aj hb3 a3.out.2.2 (lt_of_block a3.out.2.2);have y0:=ae a7 0;simp only [Le,Lb] at y0;have l3:=lt_of_block a7;have z:=KL (And.intro b3 (And.intro a7 (And.intro ag af)));clear a6 hb3 b3 a7 ag af
  have hR1:R=jk X:=by rw [HR.out];simp [nM]
  go_wp2_with fail;refine dA _ (fun wg a1=>?_)
  have E:wg=w3.alloc (.cells (dz X V2++[Value.slice none 0 0]).toArray 134 (0,0)):=by
   rw [a1,a8.out]
   kernel_rfl
  obtain ⟨S,I,hS⟩:=jT z.out.2.2.2 a9;rw [<- E] at I
  have a2:wg.heap[w.heap.size+2]?=some (.cells bS 56 (0,0)):=by rw [E];exact (heap_alloc_old _ _ (lt_of_block z.out.2.2.1)).trans z.out.2.2.1
  have bg:Below w.heap.size w wg:=by rw [E];exact z.out.1.alloc z.out.1.size _
  have a0:W3.heap.size+2<=wg.heap.size:=by rw [E];simp;omega
  have HG:=KL (And.intro I (And.intro hS (And.intro a2 (And.intro bg a0))));clear a1 E I hS a2 bg a0;refine (zt HG.out.1 (Ee HX.out (HV.out.tk rfl))).mono ?_;exact Q2
 ·go_wp2_with (refine LO rfl 56 (.tmp 2) rfl w.heap.size rfl 56 AW (0,0) _ HK.out underlying56 rfl HI.out ?_);refine dA _ (fun W3 ab=>?_);have a3:=KL (show Below w.heap.size w W3/\W3.heap[w.heap.size+1]?=some (.cells #[.int .i64 Z,.int .i64 ky,.int .i64 sl,.int .i64 Y,.bool U,.int .i64 rq,.int .i64 J,.int .i64 wt] 61 (0,0))/\W3.heap[w.heap.size+2]?=some (.cells bS 56 (0,0)) by rw [ab];exact H2.out);clear ab;rw [HA.out];refine (pq (HW.out.below a3.out.1) (GJ HX.out.gw)).mono ?_;rintro e w3 ⟨V2,rfl,af,hb3,a9⟩;obtain ⟨an,a6⟩:∃ A,A=(dz X V2).toArray:=⟨_,rfl⟩;rw [<- a6]
  have b5:an.size=26:=by rw [a6];rfl
  have a8:=KL a6
  have hN3:w.heap.size+3<=W3.heap.size+2:=by have:=lt_of_block a3.out.2.2;omega
  have b3:=a3.out.1.trans (hb3.mono a3.out.1.size);have a7:=aj hb3 a3.out.2.1 (lt_of_block a3.out.2.1);have ag:=aj hb3 a3.out.2.2 (lt_of_block a3.out.2.2);have y0:=ae a7 0;simp only [Le,Lb] at y0;have l3:=lt_of_block a7;have z:=KL (And.intro b3 (And.intro a7 (And.intro ag af)));clear a6 hb3 b3 a7 ag af;have aS:Z=1\/Z=2\/Z=3\/Z=4\/Z=5\/Z=6:=by omega
  rcases aS with rfl|rfl|rfl|rfl|rfl|rfl
  ·obtain ⟨n,rfl⟩:=Lr HV.out.k0
   have b4:n<4294967296:=by have:=HV.out.k1;simp only at this;omega
   have hR1:R=gz X n:=by rw [HR.out];simp [nM]
   have y1:=ae z.out.2.1 1;simp only [Le,Lc,Lb] at y1;go_wp2_with fail;refine dA _ (fun wg a1=>?_)
   have E:wg=w3.alloc (.cells (dz X V2++[Value.slice none 0 0]).toArray 134 (0,0)):=by
    rw [a1,a8.out]
    kernel_rfl
   obtain ⟨S,I,hS⟩:=jT z.out.2.2.2 a9;rw [<- E] at I
   have a2:wg.heap[w.heap.size+2]?=some (.cells bS 56 (0,0)):=by rw [E];exact (heap_alloc_old _ _ (lt_of_block z.out.2.2.1)).trans z.out.2.2.1
   have bg:Below w.heap.size w wg:=by rw [E];exact z.out.1.alloc z.out.1.size _
   have a0:W3.heap.size+2<=wg.heap.size:=by rw [E];simp;omega
   have HG:=KL (And.intro I (And.intro hS (And.intro a2 (And.intro bg a0))));clear a1 E I hS a2 bg a0;refine (zu HG.out.1 HX.out.gw n b4 (by simp)).mono ?_;exact Q2
  ·have hR1:R=fx X ⟨2,ky,sl,Y,U,rq,J,wt⟩:=by rw [HR.out];simp [nM]
   have y1:=ae z.out.2.1 1;have y2:=ae z.out.2.1 2;have y3:=ae z.out.2.1 3;have y4:=ae z.out.2.1 4;have y5:=ae z.out.2.1 5;have y6:=ae z.out.2.1 6;have y7:=ae z.out.2.1 7;simp only [Le,Lc,Lb] at y1 y2 y3 y4 y5 y6 y7;go_wp2_with fail;refine dA _ (fun wg a1=>?_)
   have E:wg=w3.alloc (.cells (dz X V2++[Value.slice none 0 0]).toArray 134 (0,0)):=by
    rw [a1,a8.out]
    kernel_rfl
   obtain ⟨S,I,hS⟩:=jT z.out.2.2.2 a9;rw [<- E] at I
   have a2:wg.heap[w.heap.size+2]?=some (.cells bS 56 (0,0)):=by rw [E];exact (heap_alloc_old _ _ (lt_of_block z.out.2.2.1)).trans z.out.2.2.1
   have bg:Below w.heap.size w wg:=by rw [E];exact z.out.1.alloc z.out.1.size _
   have a0:W3.heap.size+2<=wg.heap.size:=by rw [E];simp;omega
   have HG:=KL (And.intro I (And.intro hS (And.intro a2 (And.intro bg a0))));clear a1 E I hS a2 bg a0;refine (mu HG.out.1 HX.out.gw ⟨2,ky,sl,Y,U,rq,J,wt⟩ (by simp) (by simp)).mono ?_;exact Q2
  ·have hR1:R=fx X ⟨3,ky,sl,Y,U,rq,J,wt⟩:=by rw [HR.out];simp [nM]
   have y1:=ae z.out.2.1 1;have y2:=ae z.out.2.1 2;have y3:=ae z.out.2.1 3;have y4:=ae z.out.2.1 4;have y5:=ae z.out.2.1 5;have y6:=ae z.out.2.1 6;have y7:=ae z.out.2.1 7;simp only [Le,Lc,Lb] at y1 y2 y3 y4 y5 y6 y7;go_wp2_with fail;refine dA _ (fun wg a1=>?_)
   have E:wg=w3.alloc (.cells (dz X V2++[Value.slice none 0 0]).toArray 134 (0,0)):=by
    rw [a1,a8.out]
    kernel_rfl
   obtain ⟨S,I,hS⟩:=jT z.out.2.2.2 a9;rw [<- E] at I
   have a2:wg.heap[w.heap.size+2]?=some (.cells bS 56 (0,0)):=by rw [E];exact (heap_alloc_old _ _ (lt_of_block z.out.2.2.1)).trans z.out.2.2.1
   have bg:Below w.heap.size w wg:=by rw [E];exact z.out.1.alloc z.out.1.size _
   have a0:W3.heap.size+2<=wg.heap.size:=by rw [E];simp;omega
   have HG:=KL (And.intro I (And.intro hS (And.intro a2 (And.intro bg a0))));clear a1 E I hS a2 bg a0;refine (mu HG.out.1 HX.out.gw ⟨3,ky,sl,Y,U,rq,J,wt⟩ (by simp) (by simp)).mono ?_;exact Q2
  ·have hR1:R=fx X ⟨4,ky,sl,Y,U,rq,J,wt⟩:=by rw [HR.out];simp [nM]
   have y1:=ae z.out.2.1 1;have y2:=ae z.out.2.1 2;have y3:=ae z.out.2.1 3;have y4:=ae z.out.2.1 4;have y5:=ae z.out.2.1 5;have y6:=ae z.out.2.1 6;have y7:=ae z.out.2.1 7;simp only [Le,Lc,Lb] at y1 y2 y3 y4 y5 y6 y7;go_wp2_with fail;refine dA _ (fun wg a1=>?_)
   have E:wg=w3.alloc (.cells (dz X V2++[Value.slice none 0 0]).toArray 134 (0,0)):=by
    rw [a1,a8.out]
    kernel_rfl
   obtain ⟨S,I,hS⟩:=jT z.out.2.2.2 a9;rw [<- E] at I
   have a2:wg.heap[w.heap.size+2]?=some (.cells bS 56 (0,0)):=by rw [E];exact (heap_alloc_old _ _ (lt_of_block z.out.2.2.1)).trans z.out.2.2.1
   have bg:Below w.heap.size w wg:=by rw [E];exact z.out.1.alloc z.out.1.size _
   have a0:W3.heap.size+2<=wg.heap.size:=by rw [E];simp;omega
   have HG:=KL (And.intro I (And.intro hS (And.intro a2 (And.intro bg a0))));clear a1 E I hS a2 bg a0;refine (mu HG.out.1 HX.out.gw ⟨4,ky,sl,Y,U,rq,J,wt⟩ (by simp) (by simp)).mono ?_;exact Q2
  ·have hR1:R=vM X ⟨5,ky,sl,Y,U,rq,J,wt⟩:=by rw [HR.out];simp [nM]
   have ac:=HV.out.ask (Or.inl rfl);have ad:=qx X (e:=⟨5,ky,sl,Y,U,rq,J,wt⟩) (Or.inl rfl);obtain ⟨au,av,_⟩:=vK HX.out.gw ac ad;have y1:=ae z.out.2.1 1;have y2:=ae z.out.2.1 2;have y3:=ae z.out.2.1 3;have y4:=ae z.out.2.1 4;have y5:=ae z.out.2.1 5;have y6:=ae z.out.2.1 6;have y7:=ae z.out.2.1 7;simp only [Le,Lc,Lb] at y1 y2 y3 y4 y5 y6 y7;go_wp2_with fail;refine dA _ (fun wg a1=>?_)
   have E:wg=w3.alloc (.cells (dz X V2++[Value.slice none 0 0]).toArray 134 (0,0)):=by
    rw [a1,a8.out]
    kernel_rfl
   obtain ⟨S,I,hS⟩:=jT z.out.2.2.2 a9;rw [<- E] at I
   have a2:wg.heap[w.heap.size+2]?=some (.cells bS 56 (0,0)):=by rw [E];exact (heap_alloc_old _ _ (lt_of_block z.out.2.2.1)).trans z.out.2.2.1
   have bg:Below w.heap.size w wg:=by rw [E];exact z.out.1.alloc z.out.1.size _
   have a0:W3.heap.size+2<=wg.heap.size:=by rw [E];simp;omega
   have HG:=KL (And.intro I (And.intro hS (And.intro a2 (And.intro bg a0))));clear a1 E I hS a2 bg a0;refine (tt HG.out.1 HX.out.gw ⟨5,ky,sl,Y,U,rq,J,wt⟩ ac (by simp) _ _ _ _ ad au av).mono ?_;unfold vM at hR1;exact Q2
  ·have hR1:R=vM X ⟨6,ky,sl,Y,U,rq,J,wt⟩:=by rw [HR.out];simp [nM]
   have ac:=HV.out.ask (Or.inr rfl);have ad:=qx X (e:=⟨6,ky,sl,Y,U,rq,J,wt⟩) (Or.inr rfl);obtain ⟨au,av,_⟩:=vK HX.out.gw ac ad;have y1:=ae z.out.2.1 1;have y2:=ae z.out.2.1 2;have y3:=ae z.out.2.1 3;have y4:=ae z.out.2.1 4;have y5:=ae z.out.2.1 5;have y6:=ae z.out.2.1 6;have y7:=ae z.out.2.1 7;simp only [Le,Lc,Lb] at y1 y2 y3 y4 y5 y6 y7;go_wp2_with fail;refine dA _ (fun wg a1=>?_)
   have E:wg=w3.alloc (.cells (dz X V2++[Value.slice none 0 0]).toArray 134 (0,0)):=by
    rw [a1,a8.out]
    kernel_rfl
   obtain ⟨S,I,hS⟩:=jT z.out.2.2.2 a9;rw [<- E] at I
   have a2:wg.heap[w.heap.size+2]?=some (.cells bS 56 (0,0)):=by rw [E];exact (heap_alloc_old _ _ (lt_of_block z.out.2.2.1)).trans z.out.2.2.1
   have bg:Below w.heap.size w wg:=by rw [E];exact z.out.1.alloc z.out.1.size _
   have a0:W3.heap.size+2<=wg.heap.size:=by rw [E];simp;omega
   have HG:=KL (And.intro I (And.intro hS (And.intro a2 (And.intro bg a0))));clear a1 E I hS a2 bg a0;refine (tt HG.out.1 HX.out.gw ⟨6,ky,sl,Y,U,rq,J,wt⟩ ac (by simp) _ _ _ _ ad au av).mono ?_;unfold vM at hR1;exact Q2
def Vs.zero:Vs:=⟨.slice none 0 0,.slice none 0 0,.slice none 0 0,.slice none 0 0,.slice none 0 0,.slice none 0 0,.slice none 0 0,[]⟩
structure Ms where
 b:Vs
 a:Vs
 o:Value
def Ms.zero:Ms:=⟨Vs.zero,Vs.zero,.slice none 0 0⟩
def Stp.zero:Stp:=⟨Ev.zero,dD Cf.zero,dD Cf.zero,[]⟩
def qh (s:Stp) (m:Ms):List Value:=Ev.cells s.ev++(dz s.be m.b++(dz s.af m.a++[m.o]))
theorem uE (s:Stp) (m:Ms):(qh s m).length=61:=rfl
def EO (c:Cf) (vs:Value) (X:Wd) (V:Vs) (h:Value):List Value:=c.cells++([vs]++(dz X V++[h]))
def pN (P:mc) (h:List Ms):List (List Value):=List.zipWith qh P.steps h
def NP (p:Nat) (vs h:Value) (b:Nat):Prop:=b≠p/\vs.ownBlock≠some b/\h.ownBlock≠some b
structure StW (K:Nat->Prop) (w:World) (s:Stp) (m:Ms):Prop where
 b:WK K w s.be m.b
 a:WK K w s.af m.a
 o:dj K w 7 m.o (s.out.map Out.cells)
theorem StW.keep {h:Nat->Prop} {w w':World} {s:Stp} {m:Ms} (z:StW h w s m) (I:w.heap.size<=w'.heap.size) (E:∀ b,b<w.heap.size->h b->w'.heap[b]?=w.heap[b]?):StW h w' s m:=⟨z.b.keep I E,z.a.keep I E,bI z.o I E⟩
structure PG (B p:Nat) (w:World) (c:Cf) (P:mc) (VL:Vs) (MS:List Ms) (vs vg:Value):Prop where
 bk:w.heap[p]?=some (.cells (EO c vs P.last VL vg).toArray 59 (0,0))
 os:w.ownsRow B 70 61 vs P.steps.length (pN P MS).flatten
 og:w.ownsRow B 111 2 vg P.given.length (P.given.map Hd.cells).flatten
 pB:B<=p
 ps:∀ b,vs.ownBlock=some b->b≠p/\vg.ownBlock≠some b
 pg:∀ b,vg.ownBlock=some b->b≠p
 ml:MS.length=P.steps.length
 wl:WK (NP p vs vg) w P.last VL
 ws:∀ i,i<P.steps.length->StW (NP p vs vg) w (P.steps.getD i Stp.zero) (MS.getD i Ms.zero)
theorem PG.below {B p:Nat} {w w':World} {c:Cf} {P:mc} {U:Vs} {K:List Ms} {vs vg:Value} (h:PG B p w c P U K vs vg) (E:Below w.heap.size w w'):PG B p w' c P U K vs vg:=
 ⟨(E.block p (lt_of_block h.bk)).trans h.bk,aZ h.os (fun z I=>E.block z (h.os.lt z I).2),aZ h.og (fun z I=>E.block z (h.og.lt z I).2),h.pB,h.ps,h.pg,h.ml,h.wl.keep E.size (fun z J _=>E.block z J),fun Z Y=>(h.ws Z Y).keep E.size (fun z J _=>E.block z J)⟩
theorem Iw (P:mc) (h:List Ms):∀ c∈pN P h,c.length=61:=by
 intro c z;obtain ⟨I,E,rfl⟩:=List.mem_iff_getElem.1 z;simp [pN,uE]
theorem mQ {P:mc} {h:List Ms} (z:h.length=P.steps.length):(pN P h).length=P.steps.length:=by simp [pN,z]
theorem Eg {P:mc} {z:List Ms} (h:z.length=P.steps.length) {i:Nat} (hi:i<P.steps.length):(pN P z).getD i []=qh (P.steps.getD i Stp.zero) (z.getD i Ms.zero):=by
 have h1:i<z.length:=by omega
 have h2:i<(pN P z).length:=by rw [mQ h];exact hi
 unfold pN at h2 ⊢;exact Q104
theorem nZ {P:Program} {a0:Array Oper} {S:World->Prop} {h:Oper} {a:Act} (hw:Region.wanted h (yielded a0 a.tmps)=true) (t:TypeId) (z E I J K U Y Z x8 x9 xa xb:Operand)
  (ho:h.op=.build t #[(0,z),(1,E),(2,I),(3,J),(4,K),(5,U),(6,Y),(7,Z),(8,x8),(9,x9),(10,xa),(11,xb)]) (v0 v1 v2 v3 v4 v5 v6 v7 v8 v9 va vb:Value)
  (h0:a.eval z=v0) (h1:a.eval E=v1) (h2:a.eval I=v2) (h3:a.eval J=v3) (h4:a.eval K=v4) (h5:a.eval U=v5) (h6:a.eval Y=v6) (h7:a.eval Z=v7) (h8:a.eval x8=v8) (h9:a.eval x9=v9) (ha:a.eval xa=va) (hb:a.eval xb=vb)
  (arr:Array Value) (hA:P.built t [(0,v0),(1,v1),(2,v2),(3,v3),(4,v4),(5,v5),(6,v6),(7,v7),(8,v8),(9,v9),(10,va),(11,vb)]=some arr):YieldsIf P a0 S h (.agg arr) a:=
 .inl ⟨hw,fun w _=>by
  have hp:P.built t ((#[(0,z),(1,E),(2,I),(3,J),(4,K),(5,U),(6,Y),(7,Z),(8,x8),(9,x9),(10,xa),(11,xb)].map fun (i,x)=>(i,a.eval x))).toList=some arr:=by
   simp only [List.map_toArray,List.map_cons,List.map_nil,h0,h1,h2,h3,h4,h5,h6,h7,h8,h9,ha,hb];exact hA
  unfold execOp;simp only [ho,Sem.run_bind,run_build w t _ arr hp,Result.andThen_ok]
  rfl⟩
theorem GV (U Y Z x3 x4 x5 x6 x7 x8 x9 h z E I J K:Int):prog.built 36 [(0,.int .i64 U),(1,.int .i64 Y),(2,.int .i64 Z),(3,.int .i64 x3),(4,.int .i64 x4),(5,.int .i64 x5),(6,.int .i64 x6),(7,.int .i64 x7),(8,.int .i64 x8),(9,.int .i64 x9),(10,.agg #[.int .i64 h,.int .i64 z,.int .i64 E]),(11,.agg #[.int .i64 I,.int .i64 J,.int .i64 K])]=some (Cf.cells ⟨U,Y,Z,x3,x4,x5,x6,x7,x8,x9,h,z,E,I,J,K⟩).toArray:=by kernel_rfl
theorem Fc (c:Cf):(Cf.cells c).toArray.all (·.oneCell')=true:=by simp [Cf.cells,Value.oneCell']
theorem vu (c:Cf):(prog.info? 36).map (·.size)=some (Cf.cells c).toArray.size:=by show _=some 16;kernel_rfl
def SuS (b:Nat) (s:Su) (w:World):Prop:=w.cell? ⟨b,0,none⟩=some (.int .i64 s.a0)/\w.cell? ⟨b,1,none⟩=some (.int .i64 s.a1)/\w.cell? ⟨b,3,none⟩=some (.int .i64 s.a3)/\w.cell? ⟨b,4,none⟩=some (.int .i64 s.a4)/\w.cell? ⟨b,5,none⟩=some (.int .i64 s.a5)/\w.cell? ⟨b,6,none⟩=some (.int .i64 s.a6)/\w.cell? ⟨b,7,none⟩=some (.int .i64 s.a7)/\w.cell? ⟨b,8,none⟩=some (.int .i64 s.a8)/\w.cell? ⟨b,9,none⟩=some (.int .i64 s.a9)/\w.cell? ⟨b,10,none⟩=some (.int .i64 s.b0)/\w.cell? ⟨b,11,none⟩=some (.int .i64 s.b1)/\w.cell? ⟨b,12,none⟩=some (.int .i64 s.b2)/\w.cell? ⟨b,13,none⟩=some (.int .i64 s.c0)/\w.cell? ⟨b,14,none⟩=some (.int .i64 s.c1)/\w.cell? ⟨b,15,none⟩=some (.int .i64 s.c2)
theorem SuS.of {b:Nat} {s:Su} {w:World} (h:w.heap[b]?=some (.cells (Su.cells s).toArray 24 (0,0))):SuS b s w:=by
 refine ⟨?_,?_,?_,?_,?_,?_,?_,?_,?_,?_,?_,?_,?_,?_,?_⟩<;>(rw [ae h];rfl)
theorem SuS.below {b n:Nat} {s:Su} {w w':World} (h:SuS b s w) (I:Below n w w') (J:b<n):SuS b s w':=by
 have k:∀ z v,w.cell? ⟨b,z,none⟩=some v->w'.cell? ⟨b,z,none⟩=some v:=fun z v E=>(I.cell (p:=⟨b,z,none⟩) J).trans E;exact Q77
theorem SuS.row {b g:Nat} {s:Su} {w:World} (h:SuS b s w) (E:b≠g) (L:Array Value):SuS b s (w.setRow g L):=by
 have k:∀ z v,w.cell? ⟨b,z,none⟩=some v->(w.setRow g L).cell? ⟨b,z,none⟩=some v:=fun z v I=>bG I E;exact Q77
theorem xy (s:Su) (hs:SuI s) (w:World):Calls prog 9 #[.agg (Su.cells s).toArray] w fun e w'=>e=.returned (.agg (Cf.cells (JE s)).toArray)/\Below w.heap.size w w':=by
 obtain ⟨Y,Z,U,a3,a4,a5,a6,a7,a8,a9,b0,b1,b2,I,J,z⟩:=s
 have hI:∀ n:Int,Value.int .i64 n∈Su.cells ⟨Y,Z,U,a3,a4,a5,a6,a7,a8,a9,b0,b1,b2,I,J,z⟩->-9223372036854775808<=n/\n<=9223372036854775807:=fun n hn=>by
  obtain ⟨m,e,h⟩:=hs _ hn;obtain rfl:n=m:=by injection e
  exact h
 obtain ⟨aL,aS⟩:=hI Y (by simp [Su.cells]);obtain ⟨aT,b8⟩:=hI Z (by simp [Su.cells]);obtain ⟨bt,bu⟩:=hI U (by simp [Su.cells]);obtain ⟨b9,ba⟩:=hI a3 (by simp [Su.cells]);obtain ⟨bb,bc⟩:=hI a4 (by simp [Su.cells]);obtain ⟨bd,bf⟩:=hI a5 (by simp [Su.cells]);obtain ⟨bh,bi⟩:=hI a6 (by simp [Su.cells]);obtain ⟨bj,bk⟩:=hI a7 (by simp [Su.cells]);obtain ⟨bm,bn⟩:=hI a8 (by simp [Su.cells]);obtain ⟨bp,bq⟩:=hI a9 (by simp [Su.cells]);obtain ⟨aa,ab⟩:=hI b0 (by simp [Su.cells]);obtain ⟨ac,ad⟩:=hI b1 (by simp [Su.cells]);obtain ⟨af,ag⟩:=hI b2 (by simp [Su.cells]);obtain ⟨ak,al⟩:=hI I (by simp [Su.cells]);obtain ⟨am,an⟩:=hI J (by simp [Su.cells]);obtain ⟨br,bs⟩:=hI z (by simp [Su.cells]);clear hs hI
 have ht:-20<Int.tmod z 20/\Int.tmod z 20<20:=by
  have h1:=Int.tmod_lt_of_pos z (b:=20) (by decide);have h2:=Int.lt_tmod_of_pos z (b:=20) (by decide);omega
 have ao:-9223372036854775808<=Int.tmod z 20:=by omega
 have ar:Int.tmod z 20<=9223372036854775807:=by omega
 have q0:=cZ Y (m:=8) (by decide);have q2:=cZ U (m:=20) (by decide);have q1:=cZ Z (m:=20 - (1+pk U 20)+1) (by omega);have q5:=cZ a5 (m:=5) (by decide);have q6:=cZ a6 (m:=6) (by decide);have q7:=cZ a7 (m:=4) (by decide);have w0:IntKind.i64.wrap (1+pk Y 8)=1+pk Y 8:=LK _ (by omega);have w2:IntKind.i64.wrap (1+pk U 20)=1+pk U 20:=LK _ (by omega);have w5:IntKind.i64.wrap (1+pk a5 5)=1+pk a5 5:=LK _ (by omega);have w6:IntKind.i64.wrap (1+pk a6 6)=1+pk a6 6:=LK _ (by omega);have w7:IntKind.i64.wrap (1+pk a7 4)=1+pk a7 4:=LK _ (by omega);have v0:IntKind.i64.wrap (20 - (1+pk U 20))=20 - (1+pk U 20):=LK _ (by omega);have v1:IntKind.i64.wrap (20 - (1+pk U 20)+1)=20 - (1+pk U 20)+1:=LK _ (by omega);have v2:IntKind.i64.wrap (1+pk U 20+pk Z (20 - (1+pk U 20)+1))=1+pk U 20+pk Z (20 - (1+pk U 20)+1):=LK _ (by omega);have v3:IntKind.i64.wrap (Int.tmod z 20)=Int.tmod z 20:=LK _ (by omega);go_in;unfold Su.cells;go_wp2_with (first|(go_at_call 18;refine (cG _ _ _ (by assumption) (by assumption) (by omega) (by omega)).mono ?_;rintro e w1 ⟨rfl,rfl⟩)|(go_at_call 19;refine (dt b0 b1 b2 _ aa ab ac ad af ag).mono ?_;rintro e w2 ⟨rfl,hb2⟩;have au:wb.heap.size<=w2.heap.size:=(by have:=hb2.size;simpa using this))|(go_at_call 20;refine (dC I J (Int.tmod z 20) _ ak al am an ao ar).mono ?_;rintro e w3 ⟨rfl,hb3⟩;have av:=hb3.size));refine bA _ (fun wb aw=>?_)
 have ax:Below w.heap.size w wb:=by rw [aw];exact ((KM _ _).alloc (KY _) _).alloc (by simp) _
 have aH:wb.heap.size=w.heap.size+2:=by rw [aw];simp
 have ay:SuS w.heap.size ⟨Y,Z,U,a3,a4,a5,a6,a7,a8,a9,b0,b1,b2,I,J,z⟩ wb:=SuS.of (by rw [aw];exact (KQ _ _ _ (by simp)).trans (aB _ rfl))
 have aA:wb.heap[w.heap.size+1]?=some (.cells (Cf.cells Cf.zero).toArray 36 (0,0)):=by rw [aw];exact aB _ (by simp)
 have aF:wb.drew.heap.size=wb.heap.size:=rfl;have HE:=KL aA;have HB:=KL ax;have HD:=KL ay;clear aw ax aA ay;refine Zr (fun w':World=>w'.cell? ⟨w.heap.size,0,none⟩=some (.int .i64 Y)/\w'.cell? ⟨w.heap.size,1,none⟩=some (.int .i64 Z)/\w'.cell? ⟨w.heap.size,3,none⟩=some (.int .i64 a3)/\w'.cell? ⟨w.heap.size,4,none⟩=some (.int .i64 a4)/\w'.cell? ⟨w.heap.size,5,none⟩=some (.int .i64 a5)/\w'.cell? ⟨w.heap.size,6,none⟩=some (.int .i64 a6)/\w'.cell? ⟨w.heap.size,7,none⟩=some (.int .i64 a7)/\w'.cell? ⟨w.heap.size,8,none⟩=some (.int .i64 a8)/\w'.cell? ⟨w.heap.size,9,none⟩=some (.int .i64 a9)/\w'.cell? ⟨w.heap.size,10,none⟩=some (.int .i64 b0)/\w'.cell? ⟨w.heap.size,11,none⟩=some (.int .i64 b1)/\w'.cell? ⟨w.heap.size,12,none⟩=some (.int .i64 b2)/\w'.cell? ⟨w.heap.size,13,none⟩=some (.int .i64 I)/\w'.cell? ⟨w.heap.size,14,none⟩=some (.int .i64 J)/\w'.cell? ⟨w.heap.size,15,none⟩=some (.int .i64 z)) (fun E=>?_) (by (try dsimp only);(first|exact HD.out|exact E|exact SuS.below (s:=⟨Y,Z,U,a3,a4,a5,a6,a7,a8,a9,b0,b1,b2,I,J,z⟩) E hb2 (by omega)|exact SuS.below (s:=⟨Y,Z,U,a3,a4,a5,a6,a7,a8,a9,b0,b1,b2,I,J,z⟩) E hb3 (by omega)|exact SuS.row (s:=⟨Y,Z,U,a3,a4,a5,a6,a7,a8,a9,b0,b1,b2,I,J,z⟩) E (by omega) _));refine dl 0 ?_;refine eY 4 ?_;refine dl 8 ?_;refine dl 12 ?_;refine Zt 14 ?_;refine dl 16 ?_;refine dl 19 ?_;refine dl 23 ?_;refine dl 27 ?_;refine dl 31 ?_;refine dl 34 ?_;refine eD 37 ?_;refine Zt 45 ?_;refine eD 47 ?_;refine dl 55 ?_;refine Z1 2 (fun K hK=>?_);go_simp;(first|(go_at_call 18;refine (cG _ _ _ (by assumption) (by assumption) (by omega) (by omega)).mono ?_;rintro e w1 ⟨rfl,rfl⟩)|(go_at_call 19;refine (dt b0 b1 b2 _ aa ab ac ad af ag).mono ?_;rintro e w2 ⟨rfl,hb2⟩;have au:wb.heap.size<=w2.heap.size:=(by have:=hb2.size;simpa using this))|(go_at_call 20;refine (dC I J (Int.tmod z 20) _ ak al am an ao ar).mono ?_;rintro e w3 ⟨rfl,hb3⟩;have av:=hb3.size));(try go_wp2_with fail);refine Zk hK (hS:=by (try dsimp only);(first|exact HD.out|exact E|exact SuS.below (s:=⟨Y,Z,U,a3,a4,a5,a6,a7,a8,a9,b0,b1,b2,I,J,z⟩) E hb2 (by omega)|exact SuS.below (s:=⟨Y,Z,U,a3,a4,a5,a6,a7,a8,a9,b0,b1,b2,I,J,z⟩) E hb3 (by omega)|exact SuS.row (s:=⟨Y,Z,U,a3,a4,a5,a6,a7,a8,a9,b0,b1,b2,I,J,z⟩) E (by omega) _)) fun E=>?_;clear hK K;refine Zt 3 ?_;refine Z1 10 (fun K hK=>?_);go_simp;(first|(go_at_call 18;refine (cG _ _ _ (by assumption) (by assumption) (by omega) (by omega)).mono ?_;rintro e w1 ⟨rfl,rfl⟩)|(go_at_call 19;refine (dt b0 b1 b2 _ aa ab ac ad af ag).mono ?_;rintro e w2 ⟨rfl,hb2⟩;have au:wb.heap.size<=w2.heap.size:=(by have:=hb2.size;simpa using this))|(go_at_call 20;refine (dC I J (Int.tmod z 20) _ ak al am an ao ar).mono ?_;rintro e w3 ⟨rfl,hb3⟩;have av:=hb3.size));(try go_wp2_with fail);refine Zk hK (hS:=by (try dsimp only);(first|exact HD.out|exact E|exact SuS.below (s:=⟨Y,Z,U,a3,a4,a5,a6,a7,a8,a9,b0,b1,b2,I,J,z⟩) E hb2 (by omega)|exact SuS.below (s:=⟨Y,Z,U,a3,a4,a5,a6,a7,a8,a9,b0,b1,b2,I,J,z⟩) E hb3 (by omega)|exact SuS.row (s:=⟨Y,Z,U,a3,a4,a5,a6,a7,a8,a9,b0,b1,b2,I,J,z⟩) E (by omega) _)) fun E=>?_;clear hK K;refine Zt 11 ?_;refine Z1 15 (fun K hK=>?_);go_simp;(first|(go_at_call 18;refine (cG _ _ _ (by assumption) (by assumption) (by omega) (by omega)).mono ?_;rintro e w1 ⟨rfl,rfl⟩)|(go_at_call 19;refine (dt b0 b1 b2 _ aa ab ac ad af ag).mono ?_;rintro e w2 ⟨rfl,hb2⟩;have au:wb.heap.size<=w2.heap.size:=(by have:=hb2.size;simpa using this))|(go_at_call 20;refine (dC I J (Int.tmod z 20) _ ak al am an ao ar).mono ?_;rintro e w3 ⟨rfl,hb3⟩;have av:=hb3.size));(try go_wp2_with fail);refine Zk hK (hS:=by (try dsimp only);(first|exact HD.out|exact E|exact SuS.below (s:=⟨Y,Z,U,a3,a4,a5,a6,a7,a8,a9,b0,b1,b2,I,J,z⟩) E hb2 (by omega)|exact SuS.below (s:=⟨Y,Z,U,a3,a4,a5,a6,a7,a8,a9,b0,b1,b2,I,J,z⟩) E hb3 (by omega)|exact SuS.row (s:=⟨Y,Z,U,a3,a4,a5,a6,a7,a8,a9,b0,b1,b2,I,J,z⟩) E (by omega) _)) fun E=>?_;clear hK K;refine Z1 18 (fun K hK=>?_);go_simp;(first|(go_at_call 18;refine (cG _ _ _ (by assumption) (by assumption) (by omega) (by omega)).mono ?_;rintro e w1 ⟨rfl,rfl⟩)|(go_at_call 19;refine (dt b0 b1 b2 _ aa ab ac ad af ag).mono ?_;rintro e w2 ⟨rfl,hb2⟩;have au:wb.heap.size<=w2.heap.size:=(by have:=hb2.size;simpa using this))|(go_at_call 20;refine (dC I J (Int.tmod z 20) _ ak al am an ao ar).mono ?_;rintro e w3 ⟨rfl,hb3⟩;have av:=hb3.size));(try go_wp2_with fail);refine Zk hK (hS:=by (try dsimp only);(first|exact HD.out|exact E|exact SuS.below (s:=⟨Y,Z,U,a3,a4,a5,a6,a7,a8,a9,b0,b1,b2,I,J,z⟩) E hb2 (by omega)|exact SuS.below (s:=⟨Y,Z,U,a3,a4,a5,a6,a7,a8,a9,b0,b1,b2,I,J,z⟩) E hb3 (by omega)|exact SuS.row (s:=⟨Y,Z,U,a3,a4,a5,a6,a7,a8,a9,b0,b1,b2,I,J,z⟩) E (by omega) _)) fun E=>?_;clear hK K;refine Z1 21 (fun K hK=>?_);go_simp;(first|(go_at_call 18;refine (cG _ _ _ (by assumption) (by assumption) (by omega) (by omega)).mono ?_;rintro e w1 ⟨rfl,rfl⟩)|(go_at_call 19;refine (dt b0 b1 b2 _ aa ab ac ad af ag).mono ?_;rintro e w2 ⟨rfl,hb2⟩;have au:wb.heap.size<=w2.heap.size:=(by have:=hb2.size;simpa using this))|(go_at_call 20;refine (dC I J (Int.tmod z 20) _ ak al am an ao ar).mono ?_;rintro e w3 ⟨rfl,hb3⟩;have av:=hb3.size));(try go_wp2_with fail);refine Zk hK (hS:=by (try dsimp only);(first|exact HD.out|exact E|exact SuS.below (s:=⟨Y,Z,U,a3,a4,a5,a6,a7,a8,a9,b0,b1,b2,I,J,z⟩) E hb2 (by omega)|exact SuS.below (s:=⟨Y,Z,U,a3,a4,a5,a6,a7,a8,a9,b0,b1,b2,I,J,z⟩) E hb3 (by omega)|exact SuS.row (s:=⟨Y,Z,U,a3,a4,a5,a6,a7,a8,a9,b0,b1,b2,I,J,z⟩) E (by omega) _)) fun E=>?_;clear hK K;refine Zt 22 ?_;refine Z1 25 (fun K hK=>?_);go_simp;(first|(go_at_call 18;refine (cG _ _ _ (by assumption) (by assumption) (by omega) (by omega)).mono ?_;rintro e w1 ⟨rfl,rfl⟩)|(go_at_call 19;refine (dt b0 b1 b2 _ aa ab ac ad af ag).mono ?_;rintro e w2 ⟨rfl,hb2⟩;have au:wb.heap.size<=w2.heap.size:=(by have:=hb2.size;simpa using this))|(go_at_call 20;refine (dC I J (Int.tmod z 20) _ ak al am an ao ar).mono ?_;rintro e w3 ⟨rfl,hb3⟩;have av:=hb3.size));(try go_wp2_with fail);refine Zk hK (hS:=by (try dsimp only);(first|exact HD.out|exact E|exact SuS.below (s:=⟨Y,Z,U,a3,a4,a5,a6,a7,a8,a9,b0,b1,b2,I,J,z⟩) E hb2 (by omega)|exact SuS.below (s:=⟨Y,Z,U,a3,a4,a5,a6,a7,a8,a9,b0,b1,b2,I,J,z⟩) E hb3 (by omega)|exact SuS.row (s:=⟨Y,Z,U,a3,a4,a5,a6,a7,a8,a9,b0,b1,b2,I,J,z⟩) E (by omega) _)) fun E=>?_;clear hK K;refine Zt 26 ?_;refine Z1 29 (fun K hK=>?_);go_simp;(first|(go_at_call 18;refine (cG _ _ _ (by assumption) (by assumption) (by omega) (by omega)).mono ?_;rintro e w1 ⟨rfl,rfl⟩)|(go_at_call 19;refine (dt b0 b1 b2 _ aa ab ac ad af ag).mono ?_;rintro e w2 ⟨rfl,hb2⟩;have au:wb.heap.size<=w2.heap.size:=(by have:=hb2.size;simpa using this))|(go_at_call 20;refine (dC I J (Int.tmod z 20) _ ak al am an ao ar).mono ?_;rintro e w3 ⟨rfl,hb3⟩;have av:=hb3.size));(try go_wp2_with fail);refine Zk hK (hS:=by (try dsimp only);(first|exact HD.out|exact E|exact SuS.below (s:=⟨Y,Z,U,a3,a4,a5,a6,a7,a8,a9,b0,b1,b2,I,J,z⟩) E hb2 (by omega)|exact SuS.below (s:=⟨Y,Z,U,a3,a4,a5,a6,a7,a8,a9,b0,b1,b2,I,J,z⟩) E hb3 (by omega)|exact SuS.row (s:=⟨Y,Z,U,a3,a4,a5,a6,a7,a8,a9,b0,b1,b2,I,J,z⟩) E (by omega) _)) fun E=>?_;clear hK K;refine Zt 30 ?_;refine Z1 33 (fun K hK=>?_);go_simp;(first|(go_at_call 18;refine (cG _ _ _ (by assumption) (by assumption) (by omega) (by omega)).mono ?_;rintro e w1 ⟨rfl,rfl⟩)|(go_at_call 19;refine (dt b0 b1 b2 _ aa ab ac ad af ag).mono ?_;rintro e w2 ⟨rfl,hb2⟩;have au:wb.heap.size<=w2.heap.size:=(by have:=hb2.size;simpa using this))|(go_at_call 20;refine (dC I J (Int.tmod z 20) _ ak al am an ao ar).mono ?_;rintro e w3 ⟨rfl,hb3⟩;have av:=hb3.size));(try go_wp2_with fail);refine Zk hK (hS:=by (try dsimp only);(first|exact HD.out|exact E|exact SuS.below (s:=⟨Y,Z,U,a3,a4,a5,a6,a7,a8,a9,b0,b1,b2,I,J,z⟩) E hb2 (by omega)|exact SuS.below (s:=⟨Y,Z,U,a3,a4,a5,a6,a7,a8,a9,b0,b1,b2,I,J,z⟩) E hb3 (by omega)|exact SuS.row (s:=⟨Y,Z,U,a3,a4,a5,a6,a7,a8,a9,b0,b1,b2,I,J,z⟩) E (by omega) _)) fun E=>?_;clear hK K;refine Z1 36 (fun K hK=>?_);go_simp;(first|(go_at_call 18;refine (cG _ _ _ (by assumption) (by assumption) (by omega) (by omega)).mono ?_;rintro e w1 ⟨rfl,rfl⟩)|(go_at_call 19;refine (dt b0 b1 b2 _ aa ab ac ad af ag).mono ?_;rintro e w2 ⟨rfl,hb2⟩;have au:wb.heap.size<=w2.heap.size:=(by have:=hb2.size;simpa using this))|(go_at_call 20;refine (dC I J (Int.tmod z 20) _ ak al am an ao ar).mono ?_;rintro e w3 ⟨rfl,hb3⟩;have av:=hb3.size));(try go_wp2_with fail);refine Zk hK (hS:=by (try dsimp only);(first|exact HD.out|exact E|exact SuS.below (s:=⟨Y,Z,U,a3,a4,a5,a6,a7,a8,a9,b0,b1,b2,I,J,z⟩) E hb2 (by omega)|exact SuS.below (s:=⟨Y,Z,U,a3,a4,a5,a6,a7,a8,a9,b0,b1,b2,I,J,z⟩) E hb3 (by omega)|exact SuS.row (s:=⟨Y,Z,U,a3,a4,a5,a6,a7,a8,a9,b0,b1,b2,I,J,z⟩) E (by omega) _)) fun E=>?_;clear hK K;refine Z1 46 (fun K hK=>?_);go_simp;(first|(go_at_call 18;refine (cG _ _ _ (by assumption) (by assumption) (by omega) (by omega)).mono ?_;rintro e w1 ⟨rfl,rfl⟩)|(go_at_call 19;refine (dt b0 b1 b2 _ aa ab ac ad af ag).mono ?_;rintro e w2 ⟨rfl,hb2⟩;have au:wb.heap.size<=w2.heap.size:=(by have:=hb2.size;simpa using this))|(go_at_call 20;refine (dC I J (Int.tmod z 20) _ ak al am an ao ar).mono ?_;rintro e w3 ⟨rfl,hb3⟩;have av:=hb3.size));(try go_wp2_with fail);refine Zk hK (hS:=by (try dsimp only);(first|exact HD.out|exact E|exact SuS.below (s:=⟨Y,Z,U,a3,a4,a5,a6,a7,a8,a9,b0,b1,b2,I,J,z⟩) E hb2 (by omega)|exact SuS.below (s:=⟨Y,Z,U,a3,a4,a5,a6,a7,a8,a9,b0,b1,b2,I,J,z⟩) E hb3 (by omega)|exact SuS.row (s:=⟨Y,Z,U,a3,a4,a5,a6,a7,a8,a9,b0,b1,b2,I,J,z⟩) E (by omega) _)) fun E=>?_;clear hK K;refine Z1 57 (fun K hK=>?_);go_simp;(first|(go_at_call 18;refine (cG _ _ _ (by assumption) (by assumption) (by omega) (by omega)).mono ?_;rintro e w1 ⟨rfl,rfl⟩)|(go_at_call 19;refine (dt b0 b1 b2 _ aa ab ac ad af ag).mono ?_;rintro e w2 ⟨rfl,hb2⟩;have au:wb.heap.size<=w2.heap.size:=(by have:=hb2.size;simpa using this))|(go_at_call 20;refine (dC I J (Int.tmod z 20) _ ak al am an ao ar).mono ?_;rintro e w3 ⟨rfl,hb3⟩;have av:=hb3.size));(try go_wp2_with fail);refine Zk hK (hS:=by (try dsimp only);(first|exact HD.out|exact E|exact SuS.below (s:=⟨Y,Z,U,a3,a4,a5,a6,a7,a8,a9,b0,b1,b2,I,J,z⟩) E hb2 (by omega)|exact SuS.below (s:=⟨Y,Z,U,a3,a4,a5,a6,a7,a8,a9,b0,b1,b2,I,J,z⟩) E hb3 (by omega)|exact SuS.row (s:=⟨Y,Z,U,a3,a4,a5,a6,a7,a8,a9,b0,b1,b2,I,J,z⟩) E (by omega) _)) fun E=>?_;clear hK K;refine Zw 58 ?_ (hy:=nZ (by rfl) 36 (.tmp 11) (.tmp 19) (.tmp 20) (.tmp 23) (.tmp 26) (.tmp 30) (.tmp 34) (.tmp 38) (.tmp 41) (.tmp 44) (.tmp 54) (.tmp 65) rfl _ _ _ _ _ _ _ _ _ _ _ _ rfl rfl rfl rfl rfl rfl rfl rfl rfl rfl rfl rfl (Cf.cells (JE ⟨Y,Z,U,a3,a4,a5,a6,a7,a8,a9,b0,b1,b2,I,J,z⟩)).toArray (GV _ _ _ _ _ _ _ _ _ _ _ _ _ _ _ _));refine Z1 59 (fun K hK=>?_);rw [if_pos (by rfl)];refine LQ 36 (.tmp 2) (.tmp 66) rfl (w.heap.size+1) (Cf.cells (JE ⟨Y,Z,U,a3,a4,a5,a6,a7,a8,a9,b0,b1,b2,I,J,z⟩)).toArray rfl rfl 36 (Cf.cells Cf.zero).toArray (aj hb3 (aj hb2 HE.out (by omega)) (by omega)) (vu _) rfl (Fc _) ?_;refine Zk hK (hS:=by (try dsimp only);(first|exact HD.out|exact E|exact SuS.below (s:=⟨Y,Z,U,a3,a4,a5,a6,a7,a8,a9,b0,b1,b2,I,J,z⟩) E hb2 (by omega)|exact SuS.below (s:=⟨Y,Z,U,a3,a4,a5,a6,a7,a8,a9,b0,b1,b2,I,J,z⟩) E hb3 (by omega)|exact SuS.row (s:=⟨Y,Z,U,a3,a4,a5,a6,a7,a8,a9,b0,b1,b2,I,J,z⟩) E (by omega) _)) fun E=>?_;clear hK K;refine Zd ?_;go_wp2_with fail;refine LN (v:=.agg (Cf.cells (JE ⟨Y,Z,U,a3,a4,a5,a6,a7,a8,a9,b0,b1,b2,I,J,z⟩)).toArray) (results_cell_row rfl _ _ (w.heap.size+1) 36 (Cf.cells (JE ⟨Y,Z,U,a3,a4,a5,a6,a7,a8,a9,b0,b1,b2,I,J,z⟩)).toArray (0,0) _ rfl (bB (aj hb3 (aj hb2 HE.out (by omega)) (by omega))) underlying36 rfl (vu _)) rfl ⟨rfl,?_⟩;exact aV ((HB.out.drew.trans (hb2.mono (by omega))).trans (hb3.mono (by omega))) (by omega)
end
section
open Go.ChangeShapes Go.WideShapes Go.ChangeAt Go.RowKit
def tP (P:Program):Nat->TypeId->Bool
 | 0,_=>false
 | n+1,t=>
  match P.underlying t with
  | some (.int .i64)=>true
  | some (.struct fs)=>(List.range (P.cellsOf t)).all fun j=>fs.toList.any fun f=>decide (f.offset<=j) && decide (j<f.offset+P.cellsOf f.type) && tP P n f.type
  | some (.array k e)=>decide (0<P.cellsOf e) && decide (P.cellsOf t=k*P.cellsOf e) && tP P n e
  | _=>false
section
variable {H:Type} {enc:TypeId×Value->H} {P:Program} {w:World} {base:Nat} {spare:Nat->Bool} {held:Bool}
theorem AV {α:Type} {cs:List α} {o c j:Nat} (h:o<=j) (z:j<o+c) (E:j<cs.length):j - o<((cs.drop o).take c).length/\((cs.drop o).take c)[j - o]?=cs[j]?:=by
 refine ⟨by simp;omega,?_⟩;rw [List.getElem?_take,if_pos (by omega),List.getElem?_drop]
 congr 1;omega
theorem vq:∀ (n:Nat) (t:TypeId),tP P n t=true->∀ (fuel:Nat) (cs:List Value) (x:DataW H×List MemPlace),DataW.trod enc P w base spare held fuel t cs=some x->∀ j,j<cs.length->∃ m,cs[j]?=some (.int .i64 m)/\(Lit.int .i64 m).wf=true:=by
 intro n
 induction n with
 | zero=>intro t z;simp [tP] at z
 | succ n ih=>
  intro t z fuel cs x Z j Y;unfold tP at z
  split at z
  ·rename_i J
   have I:dI [some .i64] cs:=nE 1 t [some .i64] (by unfold kf;rw [J]) fuel cs x Z;obtain ⟨a,c,rfl,wa,hc⟩:=jB I;obtain rfl:=uo hc
   have:j=0:=by simp at Y;omega
   subst this;exact ⟨a,rfl,wa⟩
  ·rename_i fs J
   obtain ⟨xs,m,rfl,rfl,a3,a0,I⟩:=DataW.trod_struct J Z;rw [List.all_eq_true] at z;have h1:=z j (List.mem_range.2 (by omega));rw [List.any_eq_true] at h1;obtain ⟨f,a2,K⟩:=h1;simp only [Bool.and_eq_true,decide_eq_true_eq] at K;obtain ⟨i,hi,a1⟩:=List.mem_iff_getElem.1 a2;have g1:fs[i]?=some f:=by rw [<- LV,Lj hi,a1]
   have E:=I i f g1
   have U:i<xs.length:=by rw [a0];simpa using hi
   rw [Lj U] at E;obtain ⟨s1,s2⟩:=AV K.1.1 K.1.2 Y;obtain ⟨v,h,wv⟩:=ih f.type K.2 _ _ _ E _ s1;exact ⟨v,by rw [<- s2];exact h,wv⟩
  ·rename_i k h J
   simp only [Bool.and_eq_true,decide_eq_true_eq] at z;obtain ⟨xs,m,rfl,rfl,a3,a0,I⟩:=DataW.trod_array J Z
   have hd:j / P.cellsOf h<k:=by rw [Nat.div_lt_iff_lt_mul z.1.1];omega
   have E:=I _ hd;have U:j / P.cellsOf h<xs.length:=by omega
   rw [Lj U] at E;have hm:=Nat.div_add_mod j (P.cellsOf h);have hl:=Nat.mod_lt j z.1.1;have a4:=Nat.mul_comm (P.cellsOf h) (j / P.cellsOf h);obtain ⟨s1,s2⟩:=AV (cs:=cs) (o:=j / P.cellsOf h*P.cellsOf h) (c:=P.cellsOf h) (j:=j) (by omega) (by omega) Y;obtain ⟨v,ev,wv⟩:=ih h z.2 _ _ _ E _ s1;exact ⟨v,by rw [<- s2];exact ev,wv⟩
  ·cases z
theorem CH {t:TypeId} {v:Value} {d:DataW H} {p:List MemPlace} {I:Array Field} (n:Nat) (E:P.underlying t=some (.struct I)) (U:tP P n t=true)
  (h:Value.okWide P w .any base t v) (J:DataW.Trod enc P w 0 (fun _=>true) true t v d p):∃ cs:List Value,v=.agg cs.toArray/\cs.length=P.cellsOf t/\∀ j,j<cs.length->∃ m,cs[j]?=some (.int .i64 m)/\(Lit.int .i64 m).wf=true:=by
 unfold Value.okWide at h
 rw [E] at h
 obtain ⟨cs,rfl,_,_⟩:=h
 obtain ⟨fuel,K⟩:=J
 have z:DataW.trod enc P w 0 (fun _=>true) true fuel t cs.toList=some (d,p):=K
 obtain ⟨_,_,_,_,Y,_⟩:=DataW.trod_struct E z
 exact ⟨cs.toList,by simp,Y,vq n t U fuel _ _ z⟩
end
section
variable {H:Type} {enc:TypeId×Value->H} {W:World} {base:Nat} {v:Value} {d:DataW H} {p:List MemPlace}
def Is_Setup (_:World) (v:Value):Prop:=∃ s:Su,v=.agg (Su.cells s).toArray/\SuI s
theorem opn_Setup (hv:Value.okWide prog W .any base 24 v) (h:DataW.Trod enc prog W 0 (fun _=>true) true 24 v d p) (_hz:∀ y∈d.weights prog 24,y<=reachBytes):Is_Setup W v:=by
 obtain ⟨cs,rfl,hl,hc⟩:=CH 4 underlying24 (by kernel_rfl) hv h;have hl:cs.length=16:=hl.trans (by kernel_rfl);obtain ⟨a0,e0,w0⟩:=hc 0 (by omega);obtain ⟨a1,e1,w1⟩:=hc 1 (by omega);obtain ⟨a2,e2,w2⟩:=hc 2 (by omega);obtain ⟨a3,e3,w3⟩:=hc 3 (by omega);obtain ⟨a4,e4,w4⟩:=hc 4 (by omega);obtain ⟨a5,e5,w5⟩:=hc 5 (by omega);obtain ⟨a6,e6,w6⟩:=hc 6 (by omega);obtain ⟨a7,e7,w7⟩:=hc 7 (by omega);obtain ⟨a8,e8,w8⟩:=hc 8 (by omega);obtain ⟨a9,e9,w9⟩:=hc 9 (by omega);obtain ⟨b0,e10,w10⟩:=hc 10 (by omega);obtain ⟨b1,e11,w11⟩:=hc 11 (by omega);obtain ⟨b2,e12,w12⟩:=hc 12 (by omega);obtain ⟨c0,e13,w13⟩:=hc 13 (by omega);obtain ⟨c1,e14,w14⟩:=hc 14 (by omega);obtain ⟨c2,e15,w15⟩:=hc 15 (by omega)
 have he:cs=Su.cells ⟨a0,a1,a2,a3,a4,a5,a6,a7,a8,a9,b0,b1,b2,c0,c1,c2⟩:=by
  refine List.ext_getElem? fun j=>?_
  match j with
  | 0=>rw [e0];rfl
  | 1=>rw [e1];rfl
  | 2=>rw [e2];rfl
  | 3=>rw [e3];rfl
  | 4=>rw [e4];rfl
  | 5=>rw [e5];rfl
  | 6=>rw [e6];rfl
  | 7=>rw [e7];rfl
  | 8=>rw [e8];rfl
  | 9=>rw [e9];rfl
  | 10=>rw [e10];rfl
  | 11=>rw [e11];rfl
  | 12=>rw [e12];rfl
  | 13=>rw [e13];rfl
  | 14=>rw [e14];rfl
  | 15=>rw [e15];rfl
  | j+16=>rw [Lu (by omega),Lu (by simp [Su.cells])]
 refine ⟨⟨a0,a1,a2,a3,a4,a5,a6,a7,a8,a9,b0,b1,b2,c0,c1,c2⟩,by rw [he],fun u hu=>?_⟩;simp only [Su.cells,List.mem_cons,List.not_mem_nil,or_false] at hu;rcases hu with rfl|rfl|rfl|rfl|rfl|rfl|rfl|rfl|rfl|rfl|rfl|rfl|rfl|rfl|rfl|rfl
 ·exact ⟨_,rfl,bounds_i64 w0⟩
 ·exact ⟨_,rfl,bounds_i64 w1⟩
 ·exact ⟨_,rfl,bounds_i64 w2⟩
 ·exact ⟨_,rfl,bounds_i64 w3⟩
 ·exact ⟨_,rfl,bounds_i64 w4⟩
 ·exact ⟨_,rfl,bounds_i64 w5⟩
 ·exact ⟨_,rfl,bounds_i64 w6⟩
 ·exact ⟨_,rfl,bounds_i64 w7⟩
 ·exact ⟨_,rfl,bounds_i64 w8⟩
 ·exact ⟨_,rfl,bounds_i64 w9⟩
 ·exact ⟨_,rfl,bounds_i64 w10⟩
 ·exact ⟨_,rfl,bounds_i64 w11⟩
 ·exact ⟨_,rfl,bounds_i64 w12⟩
 ·exact ⟨_,rfl,bounds_i64 w13⟩
 ·exact ⟨_,rfl,bounds_i64 w14⟩
 ·exact ⟨_,rfl,bounds_i64 w15⟩
theorem Dd.of_flat {cs:List Value} (J:dI [some .i64,some .i64,some .i64,some .i64] cs):∃ x:Dd,cs=[.int .i64 x.kind,.int .i64 x.a,.int .i64 x.b,.int .i64 x.c]/\(I9 x.kind/\I9 x.a/\I9 x.b/\I9 x.c):=by
 obtain ⟨h,c0,rfl,w0,K⟩:=jB J;obtain ⟨z,c1,rfl,w1,U⟩:=jB K;obtain ⟨E,c2,rfl,w2,Y⟩:=jB U;obtain ⟨I,c3,rfl,w3,Z⟩:=jB Y;obtain rfl:=uo Z;exact ⟨⟨h,z,E,I⟩,rfl,lO w0,lO w1,lO w2,lO w3⟩
def Is_sl_Deed (W:World) (v:Value):Prop:=∃ X:List Dd,aK W 4 v (X.map fun x=>[.int .i64 x.kind,.int .i64 x.a,.int .i64 x.b,.int .i64 x.c])/\(∀ x∈X,I9 x.kind/\I9 x.a/\I9 x.b/\I9 x.c)/\X.length*32<=140737488351232
theorem opn_sl_Deed (E:Value.okWide prog W .any base 25 v) (z:DataW.Trod enc prog W 0 (fun _=>true) true 25 v d p) (I:∀ y∈d.weights prog 25,y<=reachBytes):Is_sl_Deed W v:=by
 obtain ⟨J,h⟩:=xF 6 underlying25 (by kernel_rfl:kf prog 6 84=some [some .i64,some .i64,some .i64,some .i64]) (by kernel_rfl:prog.cellsOf 84=4) E z I;rw [show prog.bytesOf 84=32 from by kernel_rfl] at h;exact CG (by decide) (fun _=>Dd.of_flat) h
end
end
end Go.Proofs.YtennppmadmgfoaaGreatDoor
