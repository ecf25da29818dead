/- Texts of the row's proof. Conditions: none. -/
import Derived.Test.YtneailjecbfljaaGreatDoorK08
import Derived.Test.YtneailjecbfljaaGreatDoorK12
namespace Go.Proofs.YtneailjecbfljaaGreatDoor
set_option maxRecDepth 100000
set_option maxHeartbeats 8000000
section
open Go.RowKit
theorem Q46 {p:Prop} (h:p:=by
 clear hb1 K;go_wp2
 all_goals first|(go_ret;exact ⟨rfl,B1.out⟩)|exact Zx):p:=h
theorem Q73 {p:Prop} (h:p:=by
 clear hx hiq;go_enter Tryz.func93,Tryz.ntmps93;go_wp2_with fail;refine (K.out _ Zb).mono ?_;rintro e w1 ⟨rfl,hb1⟩;have B1:=Hp (show Below w.heap.size w w1 from ((Hq _ _).alloc (Hz _) _).trans (hb1.mono (by simp)));exact Q46):p:=h
theorem Q133 {p:Prop} (h:p:=by
 rcases Nat.lt_or_ge i 26 with g|g
 ·exact g
 ·rw [Ig (by rw [js];exact g)] at hv
  cases hv):p:=h
structure Ht where
 marks:List Bool
 out:Bool
 until_:Int
 times:Int
 deriving DecidableEq
def Ht.zero:Ht:=⟨[],false,0,0⟩
structure Wd where
 cf:Cf
 now:Int
 tab:List Sl
 flows:List Fl
 lives:List Lf
 reqs:List Rq
 ring:List Sp
 health:List Ht
 tok:Int
 wnow:Int
 lists:List (List Tm)
structure Vs where
 t:Value
 f:Value
 l:Value
 r:Value
 s:Value
 h:Value
 w:Value
 m:List Value
def ds (X:Wd) (V:Vs):List Value:=X.cf.cells++[.int .i64 X.now,V.t,V.f,V.l,V.r,V.s,V.h,.int .i64 X.tok,.int .i64 X.wnow,V.w]
def uD (m:Value) (h:Ht):List Value:=[m,.bool h.out,.int .i64 h.until_,.int .i64 h.times]
theorem js (X:Wd) (V:Vs):(ds X V).length=26:=rfl
def dd (K:Nat→Prop) (w:World) (sz:Nat) (v:Value) (L:List (List Value)):Prop:=aI w sz v L∧∀ b o n c,v=.slice (some ⟨b,o,none⟩) n c→L≠[]→K b
theorem bF {K:Nat→Prop} {w w':World} {sz:Nat} {v:Value} {L:List (List Value)} (h:dd K w sz v L) (hs:w.heap.size≤w'.heap.size) (hb:∀ b,b<w.heap.size→K b→w'.heap[b]?=w.heap[b]?):dd K w' sz v L:=by
 obtain ⟨⟨a,cap,rfl,h1,h2,h3,h4⟩,h5⟩:=h;refine ⟨⟨a,cap,rfl,h1,h2,h3,fun hne=>?_⟩,h5⟩;obtain ⟨b,off,rfl,h6,h7⟩:=h4 hne;refine ⟨b,off,rfl,by omega,fun i j hi hj=>?_⟩;rw [← h7 i j hi hj];exact I4 (a:=⟨b,_,none⟩) (hb b h6 (h5 _ _ _ _ rfl hne))
theorem bQ {K K':Nat→Prop} {w:World} {sz:Nat} {v:Value} {L:List (List Value)} (h:dd K w sz v L) (hk:∀ b,b<w.heap.size→K b→K' b):dd K' w sz v L:=by
 refine ⟨h.1,fun b o n c e hne=>?_⟩;obtain ⟨a,cap,e2,_,_,_,h4⟩:=h.1;obtain ⟨b',off,e3,h6,_⟩:=h4 hne;rw [e2] at e;injection e with e _ _;rw [e3] at e;injection e with e;injection e with e;subst e;exact hk _ h6 (h.2 _ _ _ _ (by rw [e2,e3]) hne)
theorem ep {B:Nat} {w:World} {sz:Nat} {v:Value} {L:List (List Value)} (h:aM B w sz v L):dd (fun b=>B≤b) w sz v L:=⟨h.1,fun b o n c e _=>by have:=h.2 _ _ _ e;simpa using this⟩
def LsK (K:Nat→Prop) (w:World) (v:Value) (LL:List (List Tm)):Prop:=∃ V:List Value,V.length=LL.length∧dd K w 1 v (V.map fun x=>[x])∧∀ i,i<LL.length→dd K w 2 (V.getD i undef) ((LL.getD i []).map Tm.cells)
theorem LsK.at_ {K:Nat→Prop} {w:World} {v:Value} {LL:List (List Tm)} (h:LsK K w v LL):kY w v LL:=by
 obtain ⟨V,h1,h2,h3⟩:=h;exact ⟨V,h1,h2.1,fun i hi=>(h3 i hi).1⟩
theorem gc {K:Nat→Prop} {w w':World} {v:Value} {LL:List (List Tm)} (h:LsK K w v LL) (hs:w.heap.size≤w'.heap.size) (hb:∀ b,b<w.heap.size→K b→w'.heap[b]?=w.heap[b]?):LsK K w' v LL:=by
 obtain ⟨V,h1,h2,h3⟩:=h;exact ⟨V,h1,bF h2 hs hb,fun i hi=>bF (h3 i hi) hs hb⟩
theorem j4 {K K':Nat→Prop} {w:World} {v:Value} {LL:List (List Tm)} (h:LsK K w v LL) (hk:∀ b,b<w.heap.size→K b→K' b):LsK K' w v LL:=by
 obtain ⟨V,h1,h2,h3⟩:=h;exact ⟨V,h1,bQ h2 hk,fun i hi=>bQ (h3 i hi) hk⟩
theorem jG {B:Nat} {w:World} {v:Value} {LL:List (List Tm)} (h:LsNew B w v LL):LsK (fun b=>B≤b) w v LL:=by
 obtain ⟨V,h1,h2,h3⟩:=h;exact ⟨V,h1,ep h2,fun i hi=>ep (h3 i hi)⟩
structure nO (K:Nat→Prop) (w:World) (X:Wd) (V:Vs):Prop where
 ta:dd K w 4 V.t (X.tab.map Sl.cells)
 li:dd K w 6 V.l (X.lives.map Lf.cells)
 re:dd K w 5 V.r (X.reqs.map Rq.cells)
 sp:dd K w 2 V.s (X.ring.map Sp.cells)
 wh:LsK K w V.w X.lists
 ml:V.m.length=X.health.length
 mr:∀ i,i<X.health.length→dd K w 1 (V.m.getD i undef) (cG (X.health.getD i Ht.zero).marks)
theorem dE {K:Nat→Prop} {w w':World} {X:Wd} {V:Vs} (h:nO K w X V) (hs:w.heap.size≤w'.heap.size) (hb:∀ b,b<w.heap.size→K b→w'.heap[b]?=w.heap[b]?):nO K w' X V:=
 ⟨bF h.ta hs hb,bF h.li hs hb,bF h.re hs hb,bF h.sp hs hb,gc h.wh hs hb,h.ml,fun i hi=>bF (h.mr i hi) hs hb⟩
theorem gR {K K':Nat→Prop} {w:World} {X:Wd} {V:Vs} (h:nO K w X V) (hk:∀ b,b<w.heap.size→K b→K' b):nO K' w X V:=
 ⟨bQ h.ta hk,bQ h.li hk,bQ h.re hk,bQ h.sp hk,j4 h.wh hk,h.ml,fun i hi=>bQ (h.mr i hi) hk⟩
def eD (X:Wd) (V:Vs):List (List Value):=List.zipWith uD V.m X.health
def GR (p:Nat) (w:World) (X:Wd) (V:Vs):Prop:=nO (fun _=>True) w X V∧aI w 7 V.f (X.flows.map Fl.cells)∧aI w 4 V.h (eD X V)∧p<w.heap.size∧∀ i v,(ds X V)[i]?=some v→w.cell? ⟨p,i,none⟩=some v
structure Fr (S:List Nat) (w w':World):Prop where
 os:w'.os=w.os
 tape:w'.tape=w.tape
 output:w'.output=w.output
 size:w.heap.size≤w'.heap.size
 block:∀ b,b<w.heap.size→b∉S→w'.heap[b]?=w.heap[b]?
theorem Fr.refl (S:List Nat) (w:World):Fr S w w:=⟨rfl,rfl,rfl,Hz _,fun _ _ _=>rfl⟩
theorem Fr.of_below {S:List Nat} {w w':World} (h:Below w.heap.size w w'):Fr S w w':=⟨h.os,h.tape,h.output,h.size,fun b hb _=>h.block b hb⟩
theorem Fr.trans {S S':List Nat} {a b c:World} (h:Fr S a b) (h2:Fr S' b c) (hs:∀ x∈S',x∈S∨a.heap.size≤x):Fr S a c:=
 ⟨h2.os.trans h.os,h2.tape.trans h.tape,h2.output.trans h.output,Il h.size h2.size,fun x hx hn=>(h2.block x (Nat.lt_of_lt_of_le hx h.size) (fun hm=>by rcases hs x hm with g|g;exact hn g;omega)).trans (h.block x hx hn)⟩
theorem Fr.below {S:List Nat} {B:Nat} {w w':World} (h:Fr S w w') (hB:B≤w.heap.size) (hs:∀ x∈S,B≤x):Below B w w':=
 ⟨h.os,h.tape,h.output,h.size,fun k hk=>h.block k (by omega) (fun hm=>by have:=hs k hm;omega)⟩
def NI (B:Nat) (S:List Nat) (b:Nat):Prop:=b∉S∧B≤b
structure G (B p:Nat) (w:World) (X:Wd) (O:List Out) (S:List Nat) (V:Vs) (vo:Value):Prop where
 bk:w.heap[p]?=some (.cells (ds X V++[vo]).toArray 119 (0,0))
 ro:nO (NI B S) w X V
 of:w.ownsRow B 72 7 V.f X.flows.length (X.flows.map Fl.cells).flatten
 oh:w.ownsRow B 148 4 V.h X.health.length (eD X V).flatten
 oo:w.ownsRow B 86 7 vo O.length (O.map Out.cells).flatten
 pB:B≤p
 sp:p∈S
 sB:∀ x∈S,B≤x
 sl:∀ x∈S,x<w.heap.size
 sf:∀ b,V.f.ownBlock=some b→b∈S∧b≠p
 sh:∀ b,V.h.ownBlock=some b→b∈S∧b≠p∧V.f.ownBlock≠some b
 so:∀ b,vo.ownBlock=some b→b∈S∧b≠p∧V.f.ownBlock≠some b∧V.h.ownBlock≠some b
theorem G.plt {B p:Nat} {w:World} {X:Wd} {O:List Out} {S:List Nat} {V:Vs} {vo:Value} (h:G B p w X O S V vo):p<w.heap.size:=lt_of_block h.bk
theorem G_keep {B p:Nat} {w w':World} {X:Wd} {O:List Out} {S:List Nat} {V:Vs} {vo:Value} (h:G B p w X O S V vo) (hs:w.heap.size≤w'.heap.size) (hb:∀ b,b<w.heap.size→w'.heap[b]?=w.heap[b]?):G B p w' X O S V vo:=
 ⟨(hb p h.plt).trans h.bk,dE h.ro hs (fun b hb' _=>hb b hb'),aX h.of (fun b e=>hb b (h.of.lt b e).2),aX h.oh (fun b e=>hb b (h.oh.lt b e).2),aX h.oo (fun b e=>hb b (h.oo.lt b e).2),h.pB,h.sp,h.sB,fun x hx=>Nat.lt_of_lt_of_le (h.sl x hx) hs,h.sf,h.sh,h.so⟩
theorem dz {B p:Nat} {w w':World} {X:Wd} {O:List Out} {S:List Nat} {V:Vs} {vo:Value} (h:G B p w X O S V vo) (hb:Below w.heap.size w w'):G B p w' X O S V vo:=G_keep h hb.size hb.block
theorem mw (X:Wd) (V:Vs):∀ c∈eD X V,c.length=4:=by
 intro c hc;unfold eD at hc;obtain ⟨i,hi,rfl⟩:=List.mem_iff_getElem.1 hc;simp [uD]
theorem ej {X:Wd} {V:Vs} (h:V.m.length=X.health.length):(eD X V).length=X.health.length:=by unfold eD;rw [List.length_zipWith,h,Nat.min_self]
theorem iK (X:List Fl):∀ c∈X.map Fl.cells,c.length=7:=by intro c hc;obtain ⟨x,_,rfl⟩:=Io.1 hc;rfl
theorem G.gr {B p:Nat} {w:World} {X:Wd} {O:List Out} {S:List Nat} {V:Vs} {vo:Value} (h:G B p w X O S V vo):GR p w X V:=by
 refine ⟨gR h.ro (fun _ _ _=>trivial),(aD h.of (by simp) (iK _)).1,(aD h.oh (ej h.ro.ml) (mw X V)).1,h.plt,fun i v hv=>?_⟩
 have hi:i<26:=by
  exact Q133
 rw [ae h.bk i,I3,Ix (by rw [js];exact hi),hv]
theorem fM {p:Nat} {w w':World} {X:Wd} {V:Vs} (h:GR p w X V) (hb:Below w.heap.size w w'):GR p w' X V:=by
 obtain ⟨h1,h2,h3,h4,h5⟩:=h;exact ⟨dE h1 hb.size (fun b hb' _=>hb.block b hb'),au h2 hb,au h3 hb,by have:=hb.size;omega,fun i v hv=>ah hb (h5 i v hv) h4⟩
def OfEnd (w:World) (L:List Hd) (code:Int) (e:Ending) (w':World):Prop:=∃ v,e=.returned (.tuple #[v,.int .i64 code])∧aI w' 2 v (L.map Hd.cells)∧Below w.heap.size w w'
theorem oe (X:List Sl) (b:Int) (v:Value) (w:World) (r:aI w 4 v (X.map Sl.cells)) (h:dL X):Calls Tryz.prog 76 #[.agg #[v],.int .i64 b] w (OfEnd w (iV X b X.length) 0):=by
 have r':=r;obtain ⟨a,c,rfl,l,m,n,p⟩:=aK Sl.zero r;obtain ⟨b0,o,rfl,hb,q⟩:=p (by intro hX;rw [hX] at h;exact absurd h.1 (by simp));refine (qa b0 o c X b w hb h r' q).mono ?_;rintro e w1 ⟨v1,rfl,R1,hb1⟩;exact ⟨v1,rfl,R1.1,hb1⟩
end
end Go.Proofs.YtneailjecbfljaaGreatDoor
