/- Texts of the row's proof. Conditions: none. -/
import Derived.Lib.Hide
import Derived.WalkLawsBesides
import Derived.WalkSpells
import Derived.Test.YtneailjecbfljaaGreatDoorK01
namespace Go.Proofs.YtneailjecbfljaaGreatDoor
set_option maxRecDepth 100000
set_option maxHeartbeats 8000000
section
open Go.RowKit
theorem Hp:type_of% @Lib.hid:=@Lib.hid
theorem Hq:type_of% @Below.refl:=@Below.refl
theorem Hr:type_of% @Below.drew:=@Below.drew
theorem Hs:type_of% @Below.setCell:=@Below.setCell
theorem Hu:type_of% @Below.heap_alloc:=@Below.heap_alloc
theorem Hv:type_of% @Below.trans:=@Below.trans
theorem Hx:type_of% @Below.alloc:=@Below.alloc
theorem Hy:type_of% @Below.heap_setCell:=@Below.heap_setCell
theorem I4:type_of% @World.cell?_of_block:=@World.cell?_of_block
theorem Iq:type_of% @World.ownsRow_nil:=@World.ownsRow_nil
theorem Ir:type_of% @IntWalk.i64_in:=@IntWalk.i64_in
theorem It:type_of% @bodyPost_ret:=@bodyPost_ret
theorem Iu:type_of% @wpList_load_row:=@wpList_load_row
theorem Iv:type_of% @wpList_store_row:=@wpList_store_row
theorem Iw:type_of% @wp_store_row:=@wp_store_row
theorem Q105 {p:Prop} (h:p:=by
 obtain ⟨h1,h2|⟨g,cap,cur,h3,h4,h5,h6⟩⟩:=h
 ·exact ⟨h1,Or.inl h2⟩
 ·exact ⟨h1,Or.inr ⟨g,cap,cur,h3,h4,(hb.block _ (lt_of_block h5)).trans h5,h6⟩⟩):p:=h
theorem Q128 {p:Prop} (h:p:=by
 have:=fe (dg (gh X) 12);rw [show uO (dg (gh X) 12)=bO (gh X) from rfl,← hX.2.2] at this;exact this):p:=h
theorem Q140 {p:Prop} (h:p:=by
 obtain ⟨x,y⟩:=a;obtain ⟨z,u⟩:=b;simp only at h1 h2;have:x=z:=by omega
 have:y=u:=by omega
 simp_all):p:=h
@[go_sem] theorem lt_2 (n:Nat):n<n+1+1:=by omega
@[go_sem] theorem lt_3 (n:Nat):n<n+1+1+1:=by omega
@[go_sem] theorem lt_4 (n:Nat):n<n+1+1+1+1:=by omega
@[go_sem] theorem lt_5 (n:Nat):n<n+1+1+1+1+1:=by omega
@[go_sem] theorem lt_6 (n:Nat):n<n+1+1+1+1+1+1:=by omega
@[go_sem] theorem lt_7 (n:Nat):n<n+1+1+1+1+1+1+1:=by omega
@[go_sem] theorem lt_8 (n:Nat):n<n+1+1+1+1+1+1+1+1:=by omega
@[go_sem] theorem lt_9 (n:Nat):n<n+1+1+1+1+1+1+1+1+1:=by omega
@[go_sem] theorem lt_10 (n:Nat):n<n+1+1+1+1+1+1+1+1+1+1:=by omega
@[go_sem] theorem lt_11 (n:Nat):n<n+1+1+1+1+1+1+1+1+1+1+1:=by omega
@[go_sem] theorem lt_12 (n:Nat):n<n+1+1+1+1+1+1+1+1+1+1+1+1:=by omega
theorem iY {a d A D:Int} (h1:0≤a) (h2:a≤A) (h3:0≤d) (h4:d≤D):0≤a*d∧a*d≤A*D:=
 ⟨Int.mul_nonneg h1 h3,Int.mul_le_mul h2 h4 h3 (by omega)⟩
theorem aJ {B n:Nat} {a w:World} (h:Below B a w):Below B a (w.drewN n):=below_drewN h n
theorem aV {W w1:World} {n:Nat} (hb:Below n W w1):(∀ b o,b<n→w1.cell? ⟨b,o,none⟩=W.cell? ⟨b,o,none⟩)∧(∀ b o,b<n→w1.frozen? ⟨b,o,none⟩=W.frozen? ⟨b,o,none⟩):=
 ⟨fun b o h=>hb.cell (p:=⟨b,o,none⟩) h,fun b o h=>hb.frozen (p:=⟨b,o,none⟩) h⟩
theorem fQ {W w1:World} {n:Nat} (hb:Below n W w1):∀ k,k<W.heap.size→k<w1.heap.size:=fun _ hk=>Nat.lt_of_lt_of_le hk hb.size
theorem rI {k:IntKind} {a b:Int} (h:a=b):Ending.returned (.int k a)=.returned (.int k b):=by rw [h]
theorem rII {k l:IntKind} {a b c d:Int} (h:a=b) (h':c=d):Ending.returned (.tuple #[.int k a,.int l c])=.returned (.tuple #[.int k b,.int l d]):=by rw [h,h']
theorem rB {a b:Bool} (h:a=b):Ending.returned (.bool a)=.returned (.bool b):=by rw [h]
def aI (w:World) (sz:Nat) (v:Value) (L:List (List Value)):Prop:=
 ∃ (a:Option Addr) (cap:Nat),v=.slice a L.length cap∧L.length≤cap∧cap≤maxLen∧(a=none→cap=0)∧
  (L≠[]→∃ b off,a=some ⟨b,off,none⟩∧b<w.heap.size∧∀ i j,i<L.length→j<sz→w.cell? ⟨b,off+i*sz+j,none⟩=(L.getD i [])[j]?)
theorem bR {w:World} {b o:Nat} {v:Value} (h:w.cell? ⟨b,o,none⟩=some v):b<w.heap.size:=by
 unfold World.cell? at h;by_cases hb:b<w.heap.size
 ·exact hb
 ·rw [Array.getElem?_eq_none (by simpa using hb)] at h
  cases h
theorem oR {w:World} {ks:List (Option IntKind)} {by_:Nat} {v:Value} {L:List (List Value)} (h:uq w ks by_ v L) (hk:0<ks.length):aI w ks.length v L∧L.length*by_≤140737488351232:=by
 obtain ⟨a,cap,rfl,h1,h2,h6,h3,h4,h5⟩:=h;refine ⟨⟨a,cap,rfl,h1,h2,h3,fun hne=>?_⟩,h6⟩
 have hpos:0<L.length:=by cases L with
  | nil=>exact absurd rfl hne
  | cons x xs=>simp
 cases a with
 | none=>have:=h3 rfl;omega
 | some ad=>
  obtain ⟨b,off,spot⟩:=ad;have h0:=h5 _ rfl 0 0 hpos hk;simp only [Nat.zero_mul,Nat.add_zero,Addr.add,if_true] at h0
  have hl:(L.getD 0 []).length=ks.length:=by
   have:L.getD 0 []∈L:=by simp only [List.getD,I7 hpos,Ip];exact Ib _
   exact uz (h4 _ this)
  have hsp:spot=none:=by
   rw [I7 (by omega)] at h0;simpa using World.cell?_spot h0
  subst hsp;refine ⟨b,off,rfl,?_,?_⟩
  ·rw [I7 (by omega)] at h0;exact bR h0
  ·intro i j hi hj;have:=h5 _ rfl i j hi hj;rw [← this]
   congr 1
   unfold Addr.add
   split
   ·rename_i hz
    have hij:i*ks.length=0∧j=0:=by omega
    rw [hij.1,hij.2]
    rfl
   ·rw [Nat.add_assoc]
theorem au {w w':World} {sz:Nat} {v:Value} {L:List (List Value)} (h:aI w sz v L) (hb:Below w.heap.size w w'):aI w' sz v L:=by
 obtain ⟨a,cap,rfl,h1,h2,h3,h4⟩:=h;refine ⟨a,cap,rfl,h1,h2,h3,fun hne=>?_⟩;obtain ⟨b,off,rfl,h5,h6⟩:=h4 hne;exact ⟨b,off,rfl,Nat.lt_of_lt_of_le h5 hb.size,fun i j hi hj=>by rw [hb.cell (p:=⟨b,off+i*sz+j,none⟩) h5];exact h6 i j hi hj⟩
theorem ai {w:World} {sz:Nat} {v:Value} {L:List (List Value)} (h:aI w sz v L) (o:Obj):aI (w.alloc o) sz v L:=
 au h ((Hq _ _).alloc (Hz _) _)
theorem dB {w:World} {sz:Nat} {v:Value} {L:List (List Value)} (h:aI w sz v L) (n:Nat):aI (w.drewN n) sz v L:=
 au h (below_drewN (Hq _ _) n)
theorem fo {sz:Nat}:∀ {L:List (List Value)},(∀ c∈L,c.length=sz)→∀ i j,i<L.length→j<sz→L.flatten[i*sz+j]?=(L.getD i [])[j]?:=by
 intro L
 induction L with
 | nil=>intro _ i j hi;simp at hi
 | cons c L ih=>
  intro h i j hi hj;have hc:=h c Ii
  cases i with
  | zero=>
   simp only [List.flatten_cons,Nat.zero_mul,Nat.zero_add,List.getD_cons_zero];rw [Ix (by omega)]
  | succ i=>
   simp only [List.flatten_cons,List.getD_cons_succ]
   have e:(i+1)*sz+j=sz+(i*sz+j):=by rw [Nat.add_mul];omega
   rw [Iy (by omega),e,hc,Nat.add_sub_cancel_left];exact ih (fun d hd=>h d (Ik _ hd)) i j (by simpa using hi) hj
theorem aN {sz:Nat}:∀ {L:List (List Value)},(∀ c∈L,c.length=sz)→L.flatten.length=L.length*sz:=by
 intro L
 induction L with
 | nil=>intro _;simp
 | cons c L ih=>
  intro h;have hc:=h c Ii;simp only [List.flatten_cons,I8,List.length_cons,Nat.add_mul,Nat.one_mul];rw [ih (fun d hd=>h d (Ik _ hd)),hc];omega
theorem fL {w:World} {base e sz n:Nat} {v:Value} {L:List (List Value)} (h:w.ownsRow base e sz v n L.flatten) (hn:L.length=n) (hl:∀ c∈L,c.length=sz):aI w sz v L:=by
 subst hn;rcases h.2 with ⟨rfl,h0⟩|⟨g,cap,cur,rfl,hg,hh,hnc,hcm,hcs,htake⟩
 ·have hL:L=[]:=List.length_eq_zero_iff.1 h0;subst hL;exact ⟨none,0,rfl,by simp,by unfold maxLen;omega,fun _=>rfl,fun hne=>absurd rfl hne⟩
 ·refine ⟨some ⟨g,0,none⟩,cap,rfl,hnc,hcm,by simp,fun hne=>⟨g,0,rfl,?_,fun i j hi hj=>?_⟩⟩
  ·rcases Nat.lt_or_ge g w.heap.size with h'|h'
   ·exact h'
   ·rw [Array.getElem?_eq_none h'] at hh
    cases hh
  ·have hlt:i*sz+j<L.length*sz:=by
    have:(i+1)*sz≤L.length*sz:=If _ (by omega);rw [Nat.add_mul] at this;omega
   rw [show 0+i*sz+j=i*sz+j by omega,h.cellAt (i*sz+j) hlt];exact fo hl i j hi hj
theorem yJ {w:World} {sz:Nat} {b off:Nat} {L:List (List Value)} (hsz:0<sz) (hl:∀ c∈L,c.length=sz) (h:∀ i j,i<L.length→j<sz→w.cell? ⟨b,off+i*sz+j,none⟩=(L.getD i [])[j]?) :
  ∀ k u,L.flatten[k]?=some u→w.cell? ((⟨b,off,none⟩:Addr).add k)=some u:=by
 intro k u hu
 have hk:k<L.flatten.length:=by
  rcases Nat.lt_or_ge k L.flatten.length with h'|h'
  ·exact h'
  ·rw [Ig h'] at hu
   cases hu
 rw [aN hl] at hk
 have hi:k / sz<L.length:=(Nat.div_lt_iff_lt_mul hsz).2 hk
 have hj:k % sz<sz:=Nat.mod_lt _ hsz
 have e:k / sz*sz+k % sz=k:=by rw [Nat.mul_comm];exact Nat.div_add_mod k sz
 have h1:=h _ _ hi hj
 rw [show off+k / sz*sz+k % sz=off+k by omega] at h1
 rw [Go.WideShapes.add_plain,h1,← fo hl _ _ hi hj,e,hu]
theorem oB {w:World} {sz:Nat} {v:Value} {L:List (List Value)} (h:aI w sz v L):∃ a cap,v=.slice a L.length cap∧(a=none→L=[]):=by
 obtain ⟨a,cap,rfl,h1,_,h3,_⟩:=h;exact ⟨a,cap,rfl,fun ha=>List.length_eq_zero_iff.1 (by have:=h3 ha;omega)⟩
theorem az {w:World} {k:Nat} (o:Obj) (hk:k=w.heap.size):(w.alloc o).heap[k]?=some o:=by
 subst hk;show (w.heap.push o)[w.heap.size]?=some o
 simp
theorem aE {w:World} {b o:Nat} {v:Value} (X:Obj) (h:w.cell? ⟨b,o,none⟩=some v):(w.alloc X).cell? ⟨b,o,none⟩=some v:=by
 rw [World.cell?_alloc_past _ _ _ (bR h)];exact h
theorem aC {w:World} {base e sz n:Nat} {v:Value} {xs:List Value} (h:w.ownsRow base e sz v n xs):∃ a cap,v=.slice a n cap∧(a=none→n=0∧cap=0)∧(∀ ad,a=some ad→base≤ad.block∧ad.spot=none∧ad.off=0):=by
 rcases h.2 with ⟨rfl,h0⟩|⟨g,cap,cur,rfl,hg,_⟩
 ·exact ⟨none,0,by rw [h0],(fun _=>⟨h0,rfl⟩),(fun _ h=>by cases h)⟩
 ·exact ⟨some ⟨g,0,none⟩,cap,rfl,(fun h=>by cases h),(fun ad h=>by cases h;exact ⟨hg,rfl,rfl⟩)⟩
theorem fy (z:Array Value) (n:Nat) (hz:0<z.size):(madeCells z (n*z.size)).toList=(List.replicate n z.toList).flatten:=by
 have hl:∀ c∈List.replicate n z.toList,c.length=z.size:=by
  intro c hc;rw [List.eq_of_mem_replicate hc];simp
 apply List.ext_getElem?;intro k;rcases Nat.lt_or_ge k (n*z.size) with hk|hk
 ·have hi:k / z.size<(List.replicate n z.toList).length:=by rw [List.length_replicate];exact (Nat.div_lt_iff_lt_mul hz).2 hk
  have hj:k % z.size<z.size:=Nat.mod_lt _ hz
  have e:k / z.size*z.size+k % z.size=k:=by rw [Nat.mul_comm];exact Nat.div_add_mod k z.size
  have h1:=fo hl _ _ hi hj;rw [e] at h1;rw [h1];rw [List.length_replicate] at hi;simp [madeCells,hk,List.getD,hi,hj]
 ·rw [Ig (by simpa [madeCells] using hk),Ig (by rw [aN hl];simpa using hk)]
theorem km {w:World} (c:List Value) (T:TypeId):∀ j u,c[j]?=some u→(w.alloc (.cells c.toArray T)).cell? ((⟨w.heap.size,0,none⟩:Addr).add j)=some u:=by
 intro j u hu;rw [Go.WideShapes.add_plain];simp [hu]
theorem aq {α:Type} {f:α→List Value} {X:List α} {w:World} {sz:Nat} {v:Value} (h:aI w sz v (X.map f)):∃ a cap,v=.slice a X.length cap∧(a=none→X=[]):=by
 obtain ⟨a,cap,rfl,hn⟩:=oB h;exact ⟨a,cap,by simp,fun ha=>by simpa using hn ha⟩
def aM (B:Nat) (w:World) (sz:Nat) (v:Value) (L:List (List Value)):Prop:=aI w sz v L∧∀ a n c,v=.slice (some a) n c→B≤a.block
theorem aD {w:World} {base e sz n:Nat} {v:Value} {L:List (List Value)} (h:w.ownsRow base e sz v n L.flatten) (hn:L.length=n) (hl:∀ c∈L,c.length=sz):aM base w sz v L:=by
 refine ⟨fL h hn hl,fun a m c hv=>?_⟩;obtain ⟨a',cap',e',_,hb⟩:=aC h;rw [hv] at e';simp only [Value.slice.injEq] at e';exact (hb a e'.1.symm).1
theorem aB {B:Nat} {w:World} {sz:Nat} {v:Value} {L:List (List Value)} (h:aM B w sz v L) {p:Addr} (hp:p.block<B) (u:Value):aM B (w.setCell p u) sz v L:=by
 obtain ⟨⟨a,cap,rfl,h1,h2,h3,h4⟩,h5⟩:=h;refine ⟨⟨a,cap,rfl,h1,h2,h3,fun hne=>?_⟩,h5⟩;obtain ⟨b,off,rfl,h6,h7⟩:=h4 hne;have hB:=h5 _ _ _ rfl;have hbl:(w.setCell p u).heap[b]?=w.heap[b]?:=Hy _ _ _ _ (by simp only at hB;omega);refine ⟨b,off,rfl,by simpa using h6,fun i j hi hj=>?_⟩;rw [I4 (w:=w) (w':=w.setCell p u) (a:=⟨b,off+i*sz+j,none⟩) hbl];exact h7 i j hi hj
theorem aG {B B':Nat} {w:World} {sz:Nat} {v:Value} {L:List (List Value)} (h:aM B w sz v L) (hB:B'≤B):aM B' w sz v L:=⟨h.1,fun a n c hv=>Il hB (h.2 a n c hv)⟩
theorem io {B:Nat} {w w':World} {sz:Nat} {v:Value} {L:List (List Value)} (h:aM B w sz v L) (hb:Below w.heap.size w w'):aM B w' sz v L:=⟨au h.1 hb,h.2⟩
theorem eQ {P:Program} {fn:Func} {p q:Tmp} {ty:TypeId} (h:fn.results=#[.cell p ty,.tmp q]) (tmps:Array Value) (w:World) (g:Nat) (t:TypeId) (cs:Array Value) (fr:Nat×Nat) (d:TypeDesc) (u:Value)
  (hp:tmps.getD p undef=.pointer (some ⟨g,0,none⟩)) (hq:tmps.getD q undef=u) (hg:w.heap[g]?=some (.cells cs t fr))
  (hu:P.underlying ty=some d) (hd:(match d with|.struct _|.array _ _=>true|_=>false)=true) (hi:(P.info? ty).map (·.size)=some cs.size) :
  (results fn tmps).run P w=.ok (.tuple #[.agg cs,u]) w:=by
 have hp':tmps[p]?.getD undef=.pointer (some ⟨g,0,none⟩):=by simpa using hp
 have hq':tmps[q]?.getD undef=u:=by simpa using hq
 simp [results,h,hp',hq',asAddr,run_loadVar_row w g t ty cs fr d hg hu hd hi]
theorem aR {w:World} {b g o i:Nat} {u:Value} (h:b≠g):(w.setCell ⟨g,i,none⟩ u).cell? ⟨b,o,none⟩=w.cell? ⟨b,o,none⟩:=
 I4 (w:=w) (w':=w.setCell ⟨g,i,none⟩ u) (a:=⟨b,o,none⟩) (Hy _ _ _ _ h)
theorem dh {w:World} {b o:Nat} {v:Value} (n:Nat) (h:w.cell? ⟨b,o,none⟩=some v):(w.drewN n).cell? ⟨b,o,none⟩=some v:=((aJ (n:=n) (Hq (b+1) w)).cell (p:=⟨b,o,none⟩) (Nat.lt_succ_self b)).trans h
theorem ce {w:World} {b o:Nat} {v:Value} (h:w.cell? ⟨b,o,none⟩=some v):w.drew.cell? ⟨b,o,none⟩=some v:=dh 1 h
theorem ah {w w':World} {n b o:Nat} {v:Value} (hb:Below n w w') (h:w.cell? ⟨b,o,none⟩=some v) (hn:b<n):w'.cell? ⟨b,o,none⟩=some v:=(hb.cell (p:=⟨b,o,none⟩) hn).trans h
theorem aA {w w':World} {b o:Nat} {v:Value} (hb:Below w.heap.size w w') (h:w.cell? ⟨b,o,none⟩=some v):w'.cell? ⟨b,o,none⟩=some v:=ah hb h (bR h)
theorem dU {B:Nat} {w:World} {sz:Nat} {v:Value} {L:List (List Value)} (h:aM B w sz v L) (n:Nat):aM B (w.drewN n) sz v L:=io h (below_drewN (Hq _ _) n)
theorem cR {B:Nat} {w:World} {sz:Nat} {v:Value} {L:List (List Value)} (h:aM B w sz v L) (o:Obj):aM B (w.alloc o) sz v L:=io h ((Hq _ _).alloc (Hz _) _)
theorem iv (w:World) (sz:Nat):aI w sz (.slice none 0 0) []:=⟨none,0,rfl,by simp,by unfold maxLen;omega,fun _=>rfl,fun h=>absurd rfl h⟩
theorem nN {B:Nat} {w:World} {sz:Nat} {v:Value} {L:List (List Value)} (h:aM B w sz v L):aI w sz v L:=h.1
theorem bD (B:Nat) (w:World) (sz:Nat):aM B w sz (.slice none 0 0) []:=⟨iv w sz,fun a n c h=>by cases h⟩
def GK (w:World) (sz:Nat) (L:List (List Value)) (e:Ending) (w':World):Prop:=∃ v,e=.returned v∧aM w.heap.size w' sz v L∧Below w.heap.size w w'
theorem ae {w:World} {b:Nat} {cs:Array Value} {T:TypeId} {fr:Nat×Nat} (h:w.heap[b]?=some (.cells cs T fr)) (j:Nat):w.cell? ⟨b,j,none⟩=cs[j]?:=by
 simp [World.cell?,h]
theorem ap {w:World} {b:Nat} {cs:Array Value} {T:TypeId} (h:w.heap[b]?=some (.cells cs T (0,0))) (j:Nat):w.frozen? ⟨b,j,none⟩=false:=by
 simp [World.frozen?,h]
theorem bA {wr w':World} {B sz n:Nat} {t:TypeId} {v:Value} {cs:List Value} (h:wr.ownsRow B t sz v n cs) (hb:Below wr.heap.size wr w'):w'.ownsRow B t sz v n cs:=by
 exact Q105
theorem cJ {B:Nat} {wr wx w1:World} {e:TypeId} {sz n cap:Nat} {a:Option Addr} {cs:List Value} (hx:Below wr.heap.size wr wx) (hB:B≤wr.heap.size) (hown:wr.ownsRow B e sz (.slice a n cap) n cs) (hgrow:wx.grownBy w1 (Value.slice a n cap).ownBlock):Below B wr w1:=
 (hx.mono hB).trans ((Hq _ _).grown hgrow (Il hB hx.size) (by
  intro r hr
  exact (hown.lt r hr).1))
theorem aP {w:World} {b j:Nat} {arr:Array Value} {T:TypeId} {fr:Nat×Nat} (h:w.heap[b]?=some (.cells arr T fr)) (u:Value):(w.setCell ⟨b,j,none⟩ u).heap[b]?=some (.cells (arr.setIfInBounds j u) T fr):=by
 have hlt:=lt_of_block h;have h':w.heap[b]=.cells arr T fr:=by simpa [Array.getElem?_eq_getElem hlt] using h
 show (w.heap.modify b _)[b]?=_
 rw [Array.getElem?_eq_getElem (by simpa using hlt),Array.getElem_modify_self,h']
 rfl
theorem aU {w:World} {b g j:Nat} {x:Option Obj} {u:Value} (h:w.heap[b]?=x) (hn:b≠g):(w.setCell ⟨g,j,none⟩ u).heap[b]?=x:=(Hy _ _ _ _ hn).trans h
theorem aj {w w':World} {n b:Nat} {x:Option Obj} (hb:Below n w w') (h:w.heap[b]?=x) (hn:b<n):w'.heap[b]?=x:=(hb.block b hn).trans h
theorem fG {w:World} {n:Nat} (h:n=w.heap.size) (cs:List Value) (t:TypeId):∀ (j:Nat) (u:Value),cs[j]?=some u→(w.alloc (Obj.cells cs.toArray t)).cell? ((⟨n,0,none⟩:Addr).add j)=some u:=by
 subst h;exact km cs t
structure Out where
 kind:Int
 slot:Int
 gen:Int
 backend:Int
 request:Int
 code:Int
 why:Int
 deriving DecidableEq
def Out.cells (x:Out):List Value:=[.int .i64 x.kind,.int .i64 x.slot,.int .i64 x.gen,.int .i64 x.backend,.int .i64 x.request,.int .i64 x.code,.int .i64 x.why]
def Out.zero:Out:=⟨0,0,0,0,0,0,0⟩
structure Ld where
 backend:Int
 weight:Int
 flows:Int
 deriving DecidableEq
def Ld.cells (x:Ld):List Value:=[.int .i64 x.backend,.int .i64 x.weight,.int .i64 x.flows]
def Ld.zero:Ld:=⟨0,0,0⟩
structure Ev where
 kind:Int
 key:Int
 slot:Int
 gen:Int
 good:Bool
 request:Int
 backend:Int
 weight:Int
 deriving DecidableEq
def Ev.cells (x:Ev):List Value:=[.int .i64 x.kind,.int .i64 x.key,.int .i64 x.slot,.int .i64 x.gen,.bool x.good,.int .i64 x.request,.int .i64 x.backend,.int .i64 x.weight]
def Ev.zero:Ev:=⟨0,0,0,0,false,0,0,0⟩
structure Hd where
 slot:Int
 gen:Int
 deriving DecidableEq
def Hd.cells (x:Hd):List Value:=[.int .i64 x.slot,.int .i64 x.gen]
def Hd.zero:Hd:=⟨0,0⟩
structure Sl where
 gen:Int
 used:Bool
 key:Int
 backend:Int
 deriving DecidableEq
def Sl.cells (x:Sl):List Value:=[.int .i64 x.gen,.bool x.used,.int .i64 x.key,.int .i64 x.backend]
def Sl.zero:Sl:=⟨0,false,0,0⟩
structure Tm where
 at_:Int
 id:Int
 deriving DecidableEq
def Tm.cells (x:Tm):List Value:=[.int .i64 x.at_,.int .i64 x.id]
def Tm.zero:Tm:=⟨0,0⟩
structure Sp where
 hash:Int
 backend:Int
 deriving DecidableEq
def Sp.cells (x:Sp):List Value:=[.int .i64 x.hash,.int .i64 x.backend]
def Sp.zero:Sp:=⟨0,0⟩
structure Lf where
 backend:Int
 state:Int
 weight:Int
 since:Int
 until_:Int
 request:Int
 deriving DecidableEq
def Lf.cells (x:Lf):List Value:=[.int .i64 x.backend,.int .i64 x.state,.int .i64 x.weight,.int .i64 x.since,.int .i64 x.until_,.int .i64 x.request]
def Lf.zero:Lf:=⟨0,0,0,0,0,0⟩
structure Rq where
 id:Int
 kind:Int
 backend:Int
 weight:Int
 answer:Int
 deriving DecidableEq
def Rq.cells (x:Rq):List Value:=[.int .i64 x.id,.int .i64 x.kind,.int .i64 x.backend,.int .i64 x.weight,.int .i64 x.answer]
def Rq.zero:Rq:=⟨0,0,0,0,0⟩
structure Fl where
 slot:Int
 gen:Int
 key:Int
 backend:Int
 serving:Bool
 retries:Int
 due:Int
 deriving DecidableEq
def Fl.cells (x:Fl):List Value:=[.int .i64 x.slot,.int .i64 x.gen,.int .i64 x.key,.int .i64 x.backend,.bool x.serving,.int .i64 x.retries,.int .i64 x.due]
def Fl.zero:Fl:=⟨0,0,0,0,false,0,0⟩
theorem tU {α:Type} {f:α→List Value} {ok:α→Prop} {ks:List (Option IntKind)} (hf:∀ cs,dC ks cs→∃ x,cs=f x∧ok x):∀ (L:List (List Value)),(∀ c∈L,dC ks c)→∃ X:List α,L=X.map f∧∀ x∈X,ok x:=by
 intro L
 induction L with
 | nil=>exact fun _=>⟨[],rfl,by simp⟩
 | cons c L ih=>
  intro h;obtain ⟨X,rfl,hX⟩:=ih (fun d hd=>h d (Ik _ hd));obtain ⟨x,rfl,hx⟩:=hf c (h c Ii);exact ⟨x :: X,rfl,by simpa using ⟨hx,hX⟩⟩
theorem Ay {α:Type} {f:α→List Value} {ok:α→Prop} {ks:List (Option IntKind)} {by_:Nat} {w:World} {v:Value} {L:List (List Value)} (hk:0<ks.length) (hf:∀ cs,dC ks cs→∃ x,cs=f x∧ok x) (h:uq w ks by_ v L) :
  ∃ X:List α,aI w ks.length v (X.map f)∧(∀ x∈X,ok x)∧X.length*by_≤140737488351232:=by
 have h':=h
 obtain ⟨_,_,_,_,_,_,_,h4,_⟩:=h'
 obtain ⟨X,rfl,hX⟩:=tU hf L h4
 have h5:=oR h hk
 exact ⟨X,h5.1,hX,by simpa using h5.2⟩
theorem aK {α:Type} {f:α→List Value} {w:World} {sz:Nat} {v:Value} {X:List α} (d:α) (h:aI w sz v (X.map f)) :
  ∃ (a:Option Addr) (cap:Nat),v=.slice a X.length cap∧X.length≤cap∧cap≤maxLen∧(a=none→cap=0)∧
   (X≠[]→∃ b off,a=some ⟨b,off,none⟩∧b<w.heap.size∧∀ i j,i<X.length→j<sz→w.cell? ⟨b,off+i*sz+j,none⟩=(f (X.getD i d))[j]?):=by
 obtain ⟨a,cap,rfl,h1,h2,h3,h4⟩:=h
 simp only [I5] at h1 ⊢
 refine ⟨a,cap,rfl,h1,h2,h3,fun hne=>?_⟩
 obtain ⟨b,off,rfl,h5,h6⟩:=h4 (by simpa using hne)
 refine ⟨b,off,rfl,h5,fun i j hi hj=>?_⟩
 rw [h6 i j (by simpa using hi) hj]
 congr 1
 simp [List.getD,hi]
end
section
open Go.ChangeShapes Go.WideShapes Go.ChangeAt Go.RowKit
section
variable {H:Type} {enc:TypeId×Value→H} {W:World} {base:Nat} {v:Value} {d:DataW H} {p:List MemPlace}
end
end
section
def mY (a b:Tm):Bool:=decide (a.at_<b.at_) || (decide (a.at_=b.at_) && decide (a.id<b.id))
theorem tj {a b:Tm}:mY a b=true↔a.at_<b.at_∨(a.at_=b.at_∧a.id<b.id):=by simp [mY]
theorem th {a b:Tm}:mY a b=false↔¬ (a.at_<b.at_∨(a.at_=b.at_∧a.id<b.id)):=by rw [← tj];simp
theorem lF (a:Tm):mY a a=false:=by rw [th];omega
theorem tmA_eq {a b:Tm} (h1:mY a b=false) (h2:mY b a=false):a=b:=by
 rw [th] at h1 h2;exact Q140
def gT (a b:Tm):Bool:=!mY b a
theorem j8 {a b:Tm}:gT a b=true↔¬ (b.at_<a.at_∨(b.at_=a.at_∧b.id<a.id)):=by unfold gT;rw [Bool.not_eq_true',th]
theorem pz (a b c:Tm) (h1:gT a b=true) (h2:gT b c=true):gT a c=true:=by rw [j8] at *;omega
theorem xC (a b:Tm):(gT a b || gT b a)=true:=by
 have:gT a b=true∨gT b a=true:=by rw [j8,j8];omega
 simpa using this
theorem Ad {a b:Tm} (h:mY a b=true):gT a b=true:=by rw [j8];rw [tj] at h;omega
def iR (X:List Tm):Prop:=X.Pairwise fun a b=>gT a b=true
def iC (X:List Tm):List Tm:=X.mergeSort gT
theorem ja (X:List Tm):iR (iC X):=List.pairwise_mergeSort pz xC X
theorem di (X:List Tm):(iC X).Perm X:=List.mergeSort_perm X gT
theorem CJ:∀ {X Y:List Tm},iR X→iR Y→X.Perm Y→X=Y:=by
 intro X
 induction X with
 | nil=>intro Y _ _ h;exact (List.nil_perm.1 h).symm
 | cons a X ih=>
  intro Y hx hy h
  cases Y with
  | nil=>exact absurd h.length_eq (by simp)
  | cons b Y=>
   have hx1:=List.pairwise_cons.1 hx;have hy1:=List.pairwise_cons.1 hy
   have e:a=b:=by
    have ha:a∈b :: Y:=h.mem_iff.1 Ii;have hb:b∈a :: X:=h.mem_iff.2 Ii;rcases List.mem_cons.1 ha with e|ha
    ·exact e
    rcases List.mem_cons.1 hb with e|hb
    ·exact e.symm
    have h1:=hy1.1 a ha;have h2:=hx1.1 b hb;exact tmA_eq (by unfold gT at h1;simpa using h1) (by unfold gT at h2;simpa using h2)
   subst e;rw [ih hx1.2 hy1.2 (List.Perm.cons_inv h)]
theorem pH {X Y:List Tm} (ho:iR Y) (hp:Y.Perm X):Y=iC X:=CJ ho (ja X) (hp.trans (di X).symm)
theorem lH {X Y:List Tm} (h:X.Perm Y):iC X=iC Y:=pH (ja X) ((di X).trans h)
theorem i9 {X:List Tm} (h:iR X):iC X=X:=(pH h (List.Perm.refl X)).symm
def bH (a now:Nat):Nat:=if a / 8=now / 8 then a % 8 else if a / 64=now / 64 then 8+a / 8 % 8 else if a / 512=now / 512 then 16+a / 64 % 8 else 24
theorem fu (a now:Nat):bH a now<25:=by unfold bH;split;omega;split;omega;split<;>omega
def dH (t:Tm) (now:Int):Prop:=now<t.at_∧t.at_≤now+500∧t.at_≤1099511627776∧0≤t.id∧t.id<200
instance (t:Tm) (now:Int):Decidable (dH t now):=by unfold dH;infer_instance
def fX (t:Tm) (now:Int):Nat:=bH t.at_.toNat now.toNat
def gK (L:List Tm):List Int:=L.map Tm.id
def Hj (now:Int) (i:Nat) (L:List Tm):Prop:=(∀ t∈L,dH t now∧fX t now=i)∧iR L
def WhMay (now:Int) (LL:List (List Tm)):Prop:=0≤now∧now≤1099511627776∧LL.length=25∧(∀ i,i<25→Hj now i (LL.getD i []))∧(gK LL.flatten).Nodup
def bK (now:Int) (L:List Tm):List (List Tm):=(List.range 25).map fun i=>iC (L.filter fun t=>fX t now == i)
theorem cV (now:Int) (L:List Tm):(bK now L).length=25:=by simp [bK]
theorem dO (now:Int) (L:List Tm) {i:Nat} (h:i<25):(bK now L).getD i []=iC (L.filter fun t=>fX t now == i):=by simp [bK,List.getD,h]
theorem qI {α:Type} (p:α→Bool):∀ LL:List (List α),LL.flatten.filter p=(LL.map (·.filter p)).flatten:=by
 intro LL
 induction LL with
 | nil=>rfl
 | cons L LL ih=>simp [List.filter_append,ih]
theorem wC {α:Type} (L:List α):∀ (LL:List (List α)) (i:Nat),i<LL.length→LL.getD i []=L→(∀ j,j<LL.length→j≠i→LL.getD j []=[])→LL.flatten=L:=by
 intro LL
 induction LL with
 | nil=>intro i h;simp at h
 | cons M LL ih=>
  intro i h he ho
  cases i with
  | zero=>
   simp at he;subst he
   have:LL.flatten=[]:=by
    rw [List.flatten_eq_nil_iff];intro N hN;obtain ⟨j,hj,rfl⟩:=List.mem_iff_getElem.1 hN;have:=ho (j+1) (by simp;exact hj) (by omega);simpa [List.getD,hj] using this
   simp [this]
  | succ i=>
   have h0:=ho 0 (by simp) (by omega);simp at h0;subst h0;rw [List.flatten_cons,List.nil_append];exact ih i (by simpa using h) (by simpa using he) (fun j hj hne=>by have:=ho (j+1) (by simpa using hj) (by omega);simpa using this)
theorem kE {now:Int} {LL:List (List Tm)} (hl:LL.length=25) (h:∀ i,i<25→∀ t∈LL.getD i [],fX t now=i) {i:Nat} (hi:i<25):LL.flatten.filter (fun t=>fX t now == i)=LL.getD i []:=by
 rw [qI];refine wC _ _ i (by rw [I5];omega) ?_ (fun j hj hne=>?_)
 ·have:(LL.map (·.filter fun t=>fX t now == i)).getD i []=(LL.getD i []).filter fun t=>fX t now == i:=by
   simp [List.getD,hl,hi]
  rw [this];refine List.filter_eq_self.2 fun t ht=>by simpa using h i hi t ht
 ·rw [I5,hl] at hj
  have:(LL.map (·.filter fun t=>fX t now == i)).getD j []=(LL.getD j []).filter fun t=>fX t now == i:=by
   simp [List.getD,hl,hj]
  rw [this];refine List.filter_eq_nil_iff.2 fun t ht=>?_;have:=h j hj t ht;simp;omega
theorem jg {LL MM:List (List Tm)} (h1:LL.length=25) (h2:MM.length=25) (h:∀ i,i<25→LL.getD i []=MM.getD i []):LL=MM:=by
 apply List.ext_getElem (by omega);intro i h3 h4;have:=h i (by omega);simpa [List.getD,h3,h4] using this
theorem C4 {now:Int} {LL:List (List Tm)} (h:WhMay now LL):LL=bK now LL.flatten:=by
 obtain ⟨_,_,hl,hL,_⟩:=h;refine jg hl (cV _ _) fun i hi=>?_;rw [dO _ _ hi,kE hl (fun j hj t ht=>((hL j hj).1 t ht).2) hi];exact (i9 (hL i hi).2).symm
theorem AB {α:Type} [DecidableEq α]:∀ {L M:List α},L.Nodup→(∀ x∈L,x∈M)→L.length≤M.length:=by
 intro L
 induction L with
 | nil=>intro M _ _;simp
 | cons x L ih=>
  intro M hn hs;have hx:=hs x Ii;have h1:=List.nodup_cons.1 hn;have h2:=ih (M:=M.erase x) h1.2 (fun y hy=>(List.mem_erase_of_ne (by rintro rfl;exact h1.1 hy)).2 (hs y (Ik _ hy)));have h3:=List.length_erase_of_mem hx;have h4:0<M.length:=List.length_pos_iff.2 (by rintro rfl;cases hx);simp only [List.length_cons];omega
theorem z8 {L:List Tm} {now:Int} (h:∀ t∈L,dH t now) (hn:(gK L).Nodup):L.length≤200:=by
 have h1:(gK L).length=L.length:=by simp [gK]
 rw [← h1]
 have hsub:∀ x∈gK L,x∈(List.range 200).map (fun n:Nat=>(n:Int)):=by
  intro x hx;simp only [gK,Io] at hx;obtain ⟨t,ht,rfl⟩:=hx;obtain ⟨_,_,_,h4,h5⟩:=h t ht;obtain ⟨n,hn⟩:=Id h4;rw [hn];exact Io.2 ⟨n,by simp;omega,rfl⟩
 have:=AB hn hsub;simpa using this
theorem iJ {LL:List (List Tm)} {t:Tm}:t∈LL.flatten↔∃ i,i<LL.length∧t∈LL.getD i []:=by
 rw [List.mem_flatten];constructor
 ·rintro ⟨L,hL,ht⟩;obtain ⟨i,hi,rfl⟩:=List.mem_iff_getElem.1 hL;exact ⟨i,hi,by simpa [List.getD,hi] using ht⟩
 ·rintro ⟨i,hi,ht⟩;exact ⟨LL[i],Ib _,by simpa [List.getD,hi] using ht⟩
theorem WhMay.tm {now:Int} {LL:List (List Tm)} (h:WhMay now LL):∀ t∈LL.flatten,dH t now:=by
 intro t ht;obtain ⟨i,hi,hm⟩:=iJ.1 ht;exact ((h.2.2.2.1 i (by have:=h.2.2.1;omega)).1 t hm).1
theorem WhMay.tot {now:Int} {LL:List (List Tm)} (h:WhMay now LL):LL.flatten.length≤200:=z8 h.tm h.2.2.2.2
theorem pu {now:Int} {L:List Tm} (h0:0≤now) (h1:now≤1099511627776) (h:∀ t∈L,dH t now) (hn:(gK L).Nodup):WhMay now (bK now L)∧(bK now L).flatten.Perm L:=by
 have hp:(bK now L).flatten.Perm L:=by
  have key:∀ k,((List.range k).map fun i=>iC (L.filter fun t=>fX t now == i)).flatten.Perm (L.filter fun t=>decide (fX t now<k)):=by
   intro k
   induction k with
   | zero=>simp
   | succ k ih=>
    rw [List.range_succ,Im,Ih];simp only [List.map_cons,List.map_nil,List.flatten_cons,List.flatten_nil,List.append_nil];refine (ih.append (di _)).trans ?_
    have:∀ M:List Tm,(M.filter (fun t=>decide (fX t now<k))++M.filter (fun t=>fX t now == k)).Perm (M.filter fun t=>decide (fX t now<k+1)):=by
     intro M
     induction M with
     | nil=>simp
     | cons t M ihM=>
      have e1:decide (fX t now<k+1)=(decide (fX t now<k) || fX t now == k):=by
       rw [Bool.eq_iff_iff];simp;omega
      cases h2:decide (fX t now<k) with
      | true=>
       have h3:(fX t now == k)=false:=by simp at h2 ⊢;omega
       simp only [List.filter_cons,e1,h2,h3,Bool.true_or,if_true,Bool.false_eq_true,if_false,List.cons_append];exact List.Perm.cons t ihM
      | false=>
       cases h3:(fX t now == k) with
       | true=>
        simp only [List.filter_cons,e1,h2,h3,Bool.or_true,if_true,Bool.false_eq_true,if_false];exact List.perm_middle.trans (List.Perm.cons t ihM)
       | false=>
        simp only [List.filter_cons,e1,h2,h3,Bool.or_false,Bool.false_eq_true,if_false];exact ihM
    exact this L
  refine (key 25).trans ?_;rw [List.filter_eq_self.2];intro t _;have:=fu t.at_.toNat now.toNat;unfold fX;simpa using this
 refine ⟨⟨h0,h1,cV _ _,fun i hi=>?_,?_⟩,hp⟩
 ·rw [dO _ _ hi];refine ⟨fun t ht=>?_,ja _⟩;have ht':=(di _).mem_iff.1 ht;rw [List.mem_filter] at ht';exact ⟨h t ht'.1,by simpa using ht'.2⟩
 ·exact (hp.map Tm.id).nodup_iff.2 hn
theorem fF {now:Int} {L M:List Tm} (h:L.Perm M):bK now L=bK now M:=by
 unfold bK;refine List.map_congr_left fun i _=>lH (h.filter _)
end
section
open Go.RowKit
theorem aZ {w:World} {b:Nat} {arr arr':Array Value} {T:TypeId} {fr:Nat×Nat} (h:w.heap[b]?=some (.cells arr T fr)):(w.setRow b arr').heap[b]?=some (.cells arr' T fr):=by
 have hlt:=lt_of_block h;have h':w.heap[b]=.cells arr T fr:=by simpa [Array.getElem?_eq_getElem hlt] using h
 show (w.heap.modify b _)[b]?=_
 rw [Array.getElem?_eq_getElem (by simpa using hlt),Array.getElem_modify_self,h']
theorem aW {w:World} {b B:Nat} {a:World} {arr:Array Value} (h:Below B a w) (hB:B≤b):Below B a (w.setRow b arr):=
 h.trans ⟨rfl,rfl,rfl,by simp [World.setRow],fun k hk=>by
  show (w.heap.modify b _)[k]?=_
  rw [Array.getElem?_modify,if_neg (by omega)]⟩
theorem lu {B:Nat} {w:World} {sz:Nat} {v:Value} {L:List (List Value)} (h:aM B w sz v L) {b:Nat} (hb:b<B) (arr:Array Value):aM B (w.setRow b arr) sz v L:=by
 obtain ⟨⟨a,cap,rfl,h1,h2,h3,h4⟩,h5⟩:=h;refine ⟨⟨a,cap,rfl,h1,h2,h3,fun hne=>?_⟩,h5⟩;obtain ⟨b',off,rfl,h6,h7⟩:=h4 hne;have h8:=h5 _ _ _ rfl;simp only at h8;refine ⟨b',off,rfl,by simpa [World.setRow] using h6,fun i j hi hj=>?_⟩;rw [← h7 i j hi hj];exact cell_setRow_other w b arr _ (by show b'≠b;omega)
theorem b8 {w:World} {b g:Nat} {x:Option Obj} {arr:Array Value} (h:w.heap[b]?=x) (hn:b≠g):(w.setRow g arr).heap[b]?=x:=(setRow_other w g b arr hn).trans h
theorem bB {w:World} {b g o:Nat} {arr:Array Value} {v:Value} (h:w.cell? ⟨b,o,none⟩=some v) (hn:b≠g):(w.setRow g arr).cell? ⟨b,o,none⟩=some v:=
 (I4 (w:=w) (w':=w.setRow g arr) (a:=⟨b,o,none⟩) (setRow_other w g b arr hn)).trans h
theorem bN {P:Program} {ops:Array Oper} {rest:List Oper} {o:Oper} {a:Act} {w:World} {Q:Exit→Act→World→Prop} (hgd:o.guard=none) (ty:TypeId) (x y:Operand) (ho:o.op=.store ty x y)
  (g:Nat) (cells:Array Value) (hx:a.eval x=.pointer (some ⟨g,0,none⟩)) (hy:a.eval y=.agg cells)
  (t:TypeId) (old:Array Value) (hg:w.heap[g]?=some (.cells old t (0,0))) (hi:(P.info? ty).map (·.size)=some cells.size)
  (hold:old.size=cells.size) (h1:cells.all (·.oneCell')=true)
  (h:∀ W2:World,W2.heap[g]?=some (.cells cells t (0,0))→(∀ b,b≠g→W2.heap[b]?=w.heap[b]?)→W2.heap.size=w.heap.size→Below g w W2→wpList P ops Q rest (a.put o.dst undef) W2):wpList P ops Q (o :: rest) a w:=
 Iv hgd ty x y ho g cells hx hy t old hg hi hold h1 (h _ (aZ hg) (fun b hb=>setRow_other w g b cells hb) (by simp [World.setRow]) (aW (Hq g w) (Hz g)))
def aQ {α:Type} (p:α→Bool) (X:List α):Int:=match X.findIdx? p with|some i=>(i:Int)|none=>-1
theorem mA {α:Type} {p:α→Bool} {X:List α} {k:Nat} {d o:α} (hlt:k<X.length) (ho:o=X.getD k d) (hp:p o=false) (h:∀ x∈X.take k,p x=false):∀ x∈X.take (k+1),p x=false:=by
 intro x hx;rw [I6 hlt] at hx;rcases List.mem_append.1 hx with h'|h'
 ·exact h x h'
 ·simp at h';rw [h',← hp,ho];simp [List.getD,hlt]
theorem kO {α:Type} {p:α→Bool} {X:List α} {k:Nat} {d o:α} (hlt:k<X.length) (ho:o=X.getD k d) (hp:p o=true) (h:∀ x∈X.take k,p x=false):aQ p X=k:=by
 have e:X.findIdx? p=some k:=by
  rw [List.findIdx?_eq_some_iff_getElem];refine ⟨hlt,?_,fun j hj=>?_⟩
  ·rw [← hp,ho];simp [List.getD,hlt]
  ·rw [h _ (List.mem_take_iff_getElem.2 ⟨j,by omega,rfl⟩)];simp
 unfold aQ;rw [e]
theorem jC {α:Type} {p:α→Bool} {X:List α} {k:Nat} (hk:X.length=k) (h:∀ x∈X.take k,p x=false):aQ p X=-1:=by
 rw [Ia (by omega)] at h;have e:X.findIdx? p=none:=List.findIdx?_eq_none_iff.2 (by simpa using h);unfold aQ;rw [e]
theorem ir {α:Type} (p:α→Bool) (X:List α):(X.any p=true↔0≤aQ p X)∧(X.any p=false↔aQ p X<0):=by
 unfold aQ
 cases h:X.findIdx? p with
 | none=>
  have:=List.findIdx?_eq_none_iff.1 h
  have hf:X.any p=false:=by rw [List.any_eq_false];intro x hx;rw [this x hx];simp
  rw [hf];simp
 | some i=>
  obtain ⟨hi,hp,_⟩:=List.findIdx?_eq_some_iff_getElem.1 h;have ht:X.any p=true:=List.any_eq_true.2 ⟨X[i],Ib _,hp⟩;rw [ht];simp
theorem bJ {α:Type} (p:α→Bool) (X:List α) (d:α):(aQ p X=-1∧∀ x∈X,p x=false)∨∃ i:Nat,i<X.length∧aQ p X=i∧p (X.getD i d)=true∧∀ x∈X.take i,p x=false:=by
 unfold aQ
 cases h:X.findIdx? p with
 | none=>exact Or.inl ⟨rfl,by simpa using List.findIdx?_eq_none_iff.1 h⟩
 | some i=>
  obtain ⟨hi,hp,hn⟩:=List.findIdx?_eq_some_iff_getElem.1 h;refine Or.inr ⟨i,hi,rfl,by simpa [List.getD,hi] using hp,fun x hx=>?_⟩;obtain ⟨j,hj,rfl⟩:=List.mem_take_iff_getElem.1 hx;have:=hn j (by omega);simpa using this
def gI (w:World) (E:TypeId) (sz n:Nat) (cs:List Value) (e:Ending) (w':World):Prop:=∃ v,e=.returned v∧w'.ownsRow w.heap.size E sz v n cs∧Below w.heap.size w w'
theorem gx (w:World) (E:TypeId) (sz:Nat):(w.alloc (.cells #[] E)).ownsRow w.heap.size E sz (.slice (some ⟨w.heap.size,0,none⟩) 0 0) 0 []:=
 ⟨by simp,.inr ⟨w.heap.size,0,#[],rfl,Hz _,az _ rfl,Hz _,by unfold maxLen;omega,by simp,by simp⟩⟩
def pQ {α:Type} (F:List α) (n:Nat) (cs:List α):List α:=F.take n++cs++F.drop (n+cs.length)
theorem Cu {α:Type} (F:List α) (n:Nat):pQ F n []=F:=by simp [pQ]
theorem Ct {α:Type} (F:List α) (n j:Nat) (cs:List α) (u:α) (hj:j=n+cs.length) (h:j<F.length):(pQ F n cs).set j u=pQ F n (cs++[u]):=by
 subst hj;unfold pQ
 have h1:(F.take n).length=n:=by rw [Ie];omega
 rw [List.append_assoc,List.set_append_right _ _ (by omega),List.set_append_right _ _ (by omega),h1,Nat.add_sub_cancel_left,Nat.sub_self];rw [List.drop_eq_getElem_cons h];simp [List.set];rw [Nat.add_assoc]
theorem Am {sz:Nat}:∀ {L:List (List Value)},(∀ c∈L,c.length=sz)→∀ {i:Nat} {c:List Value},c.length=sz→i<L.length→pQ L.flatten (i*sz) c=(L.set i c).flatten:=by
 intro L
 induction L with
 | nil=>intro _ i c _ hi;simp at hi
 | cons d L ih=>
  intro h i c hc hi;have hd:=h d Ii
  cases i with
  | zero=>simp [pQ,hc,← hd]
  | succ i=>
   have:=ih (fun e he=>h e (Ik _ he)) hc (by simpa using hi:i<L.length);simp only [List.flatten_cons,List.set_cons_succ,← this];unfold pQ
   have e:(i+1)*sz=d.length+i*sz:=by rw [Nat.add_mul,hd];omega
   rw [e,List.take_append,Ia (by omega),Nat.add_sub_cancel_left,Nat.add_assoc,List.drop_append,List.drop_of_length_le (by omega),Nat.add_sub_cancel_left];simp
theorem CH {w:World} {base base':Nat} {e:TypeId} {size:Nat} {v:Value} {n:Nat} {xs:List Value} (h:w.ownsRow base e size v n xs) (hb:base'≤base):w.ownsRow base' e size v n xs:=by
 obtain ⟨h1,h2|⟨g,cap,cur,h3,h4,h5⟩⟩:=h
 ·exact ⟨h1,.inl h2⟩
 ·exact ⟨h1,.inr ⟨g,cap,cur,h3,Il hb h4,h5⟩⟩
def oZ (w:World) (g:Nat):Nat→List Value→World
 | _,[]=>w
 | o,c :: cs=>oZ (w.setCell ⟨g,o,none⟩ c) g (o+1) cs
theorem tK {base e sz g n cap:Nat}:∀ (cs pre:List Value) (o:Nat) (w:World) (xs:List Value),w.ownsRow base e sz (.slice (some ⟨g,0,none⟩) n cap) n (pQ xs o pre)→o+pre.length+cs.length≤xs.length→
  (oZ w g (o+pre.length) cs).ownsRow base e sz (.slice (some ⟨g,0,none⟩) n cap) n (pQ xs o (pre++cs)):=by
 intro cs
 induction cs with
 | nil=>intro pre o w xs h _;simpa [oZ] using h
 | cons c cs ih=>
  intro pre o w xs h hl;simp only [List.length_cons] at hl;have h1:=(h.stored (o+pre.length) c).1;rw [Ct _ _ _ _ _ rfl (by omega)] at h1;have h2:=ih (pre++[c]) o _ xs h1 (by simp;omega);simp only [List.append_assoc,List.singleton_append,I8,List.length_cons,List.length_nil] at h2;exact h2
theorem vu {base e sz g n cap:Nat} {w:World} {xs:List Value} (cs:List Value) (o:Nat) (h:w.ownsRow base e sz (.slice (some ⟨g,0,none⟩) n cap) n xs) (hl:o+cs.length≤xs.length) :
  (oZ w g o cs).ownsRow base e sz (.slice (some ⟨g,0,none⟩) n cap) n (pQ xs o cs):=by
 have:=tK (g:=g) cs [] o w xs (by rw [Cu];exact h) (by simpa using hl)
 simpa using this
end
section
open Go.ChangeShapes Go.WideShapes Go.ChangeAt Go.RowKit
section
variable {H:Type} {enc:TypeId×Value→H} {W:World} {base:Nat} {v:Value} {d:DataW H} {p:List MemPlace}
end
end
section
open Go.RowKit Go.ChangeMaps Go.Maps
def rR:Value→Option (DataW Unit×List MemPlace):=fun _=>some (.nil,[])
def kI (i:Int):Lit:=.int .i64 i
theorem Fe (i j:Int):(kI i).sameKey (kI j)=decide (i=j):=by simp [kI,Lit.sameKey]
def oQ (w:World) (b:Nat) (gN:List Int):Prop:=∃ es:List (Lit×DataW Unit),w.ownsMap Tryz.prog 3 rR b gN.length (.map es)∧(es.map (·.1)).Nodup∧(∀ q,q∈es.map (·.1)↔∃ i∈gN,q=kI i)∧es.length≤gN.length∧(es.length=gN.length↔gN.Nodup)
theorem oj (x:Lit×DataW Unit):∀ l,(DataW.insert x l).Perm (x :: l)
 | []=>.refl _
 | y :: r=>by
  unfold DataW.insert
  split
  ·exact .refl _
  ·exact (List.Perm.cons y (oj x r)).trans (List.Perm.swap _ _ _)
theorem zw:Keyed Tryz.prog 3:=int_keyed Tryz.underlying3
theorem sP (w:World):oQ (w.alloc (.map #[] 0)) w.heap.size []:=⟨[],World.ownsMap_made w _ _ _,by simp,by simp,by simp,by simp⟩
theorem nM {w w':World} {b:Nat} {gN:List Int} (h:oQ w b gN) (hb:w'.heap[b]?=w.heap[b]?):oQ w' b gN:=by
 obtain ⟨es,⟨arr,cl,h1,h2⟩,h3⟩:=h;exact ⟨es,⟨arr,cl,hb.trans h1,h2⟩,h3⟩
theorem xi {w:World} {b:Nat} {gN:List Int} (h:oQ w b gN):∃ (n:Nat) (arr:Array MapEntry) (cl:Nat),w.heap[b]?=some (.map arr cl)∧arr.size=n∧n≤gN.length∧(n=gN.length↔gN.Nodup):=by
 obtain ⟨es,⟨arr,cl,h1,_,_,h2⟩,h3,h4,h5,h6⟩:=h;simp only [DataW.map.injEq] at h2
 have e:es.length=arr.size:=by rw [h2,length_sorted];simp
 rw [e] at h5 h6;exact ⟨_,arr,cl,h1,rfl,h5,h6⟩
theorem El {es:List (Lit×DataW Unit)} {gN:List Int} (h3:(es.map (·.1)).Nodup) (h4:∀ q,q∈es.map (·.1)↔∃ i∈gN,q=kI i) (h5:es.length≤gN.length) (h6:es.length=gN.length↔gN.Nodup) (i:Int) :
  ((putKey (kI i) (.nil:DataW Unit) es).map (·.1)).Nodup∧(∀ q,q∈(putKey (kI i) (.nil:DataW Unit) es).map (·.1)↔∃ j∈gN++[i],q=kI j)∧(putKey (kI i) (.nil:DataW Unit) es).length≤(gN++[i]).length∧((putKey (kI i) (.nil:DataW Unit) es).length=(gN++[i]).length↔(gN++[i]).Nodup):=by
 have hp:=oj (kI i,.nil) (es.filter (notKey (kI i)))
 have hpm:=hp.map (·.1)
 have hk:∀ p∈es,(notKey (kI i) p=true↔p.1≠kI i):=by
  intro p hp;obtain ⟨j,_,hj⟩:=(h4 p.1).1 (List.mem_map_of_mem hp);unfold notKey;rw [hj,Fe];simp [kI]
 have hm:∀ q,q∈(es.filter (notKey (kI i))).map (·.1)↔q∈es.map (·.1)∧q≠kI i:=by
  intro q;simp only [Io,List.mem_filter];constructor
  ·rintro ⟨p,⟨hp1,hp2⟩,rfl⟩;exact ⟨⟨p,hp1,rfl⟩,(hk p hp1).1 hp2⟩
  ·rintro ⟨⟨p,hp1,rfl⟩,hne⟩;exact ⟨p,⟨hp1,(hk p hp1).2 hne⟩,rfl⟩
 have hlen:(putKey (kI i) (.nil:DataW Unit) es).length=(es.filter (notKey (kI i))).length+1:=by
  unfold putKey;rw [hp.length_eq];simp
 have hle:(es.filter (notKey (kI i))).length≤es.length:=List.length_filter_le _ _
 refine ⟨?_,?_,?_,?_⟩
 ·unfold putKey;rw [hpm.nodup_iff];simp only [List.map_cons,List.nodup_cons];refine ⟨fun h=>((hm _).1 h).2 rfl,h3.sublist (List.Sublist.map _ List.filter_sublist)⟩
 ·intro q;unfold putKey;rw [hpm.mem_iff];simp only [List.map_cons,List.mem_cons,hm,h4,List.mem_append,List.not_mem_nil,or_false];constructor
  ·rintro (h|⟨⟨j,hj,rfl⟩,_⟩)
   ·exact ⟨i,Or.inr rfl,h⟩
   ·exact ⟨j,Or.inl hj,rfl⟩
  ·rintro ⟨j,hj|rfl,rfl⟩
   ·by_cases e:kI j=kI i
    ·exact Or.inl e
    ·exact Or.inr ⟨⟨j,hj,rfl⟩,e⟩
   ·exact Or.inl rfl
 ·rw [hlen];simp;omega
 ·rw [hlen];simp only [I8,List.length_cons,List.length_nil]
  have hnd:(gN++[i]).Nodup↔gN.Nodup∧i∉gN:=by
   rw [List.nodup_append];constructor
   ·rintro ⟨a,_,c⟩;exact ⟨a,fun h=>c i h i (by simp) rfl⟩
   ·rintro ⟨a,c⟩;refine ⟨a,by simp,fun x hx y hy=>?_⟩;simp at hy;subst hy;exact fun e=>c (e ▸ hx)
  rw [hnd];by_cases hin:i∈gN
  ·have hlt:(es.filter (notKey (kI i))).length<es.length:=by
    obtain ⟨p,hp1,hp2⟩:=Io.1 ((h4 (kI i)).2 ⟨i,hin,rfl⟩);rcases Nat.lt_or_ge (es.filter (notKey (kI i))).length es.length with h|h
    ·exact h
    ·exfalso;have:=List.filter_sublist.eq_of_length_le (l₁:=es.filter (notKey (kI i))) (l₂:=es) h
     have h9:p∈es.filter (notKey (kI i)):=by rw [this];exact hp1
     exact (hk p hp1).1 (List.mem_filter.1 h9).2 hp2
   constructor
   ·intro h;omega
   ·intro h;exact absurd hin h.2
  ·have hall:es.filter (notKey (kI i))=es:=by
    rw [List.filter_eq_self];intro p hp;refine (hk p hp).2 fun e=>hin ?_;obtain ⟨j,hj,hj2⟩:=(h4 p.1).1 (List.mem_map_of_mem hp);rw [e] at hj2;simp only [kI,Lit.int.injEq,true_and] at hj2;rw [hj2];exact hj
   rw [hall];constructor
   ·intro h;exact ⟨h6.1 (by omega),hin⟩
   ·intro h;have:=h6.2 h.1;omega
theorem xe {w':World} {b:Nat} {gN:List Int} {i:Int} {es:List (Lit×DataW Unit)} (h3:(es.map (·.1)).Nodup) (h4:∀ q,q∈es.map (·.1)↔∃ i∈gN,q=kI i) (h5:es.length≤gN.length) (h6:es.length=gN.length↔gN.Nodup)
  (h:w'.ownsMap Tryz.prog 3 rR b (gN.length+1) ((DataW.map es).put (kI i) .nil)):oQ w' b (gN++[i]):=by
 rw [DataW.put_eq] at h
 obtain ⟨a1,a2,a3,a4⟩:=El h3 h4 h5 h6 i
 exact ⟨_,by simpa using h,a1,a2,a3,a4⟩
theorem zq {b:Nat} {es:Array MapEntry} {clock:Nat} {w:World} (hb:w.heap[b]?=some (.map es clock)) (ty:TypeId):(Builtin.len_ #[220] ty #[.map (some b)]).run Tryz.prog w=.ok (.int .i64 es.size) w:=by
 simp [Builtin.len_,run_underlying Tryz.underlying220,MapKept.run_getObj_map hb,goInt]
theorem ko {w w':World} {b n:Nat} {D:DataW Unit} (h:w.ownsMap Tryz.prog 3 rR b n D) (hb:Below w.heap.size w w'):w'.ownsMap Tryz.prog 3 rR b n D:=by
 obtain ⟨arr,cl,h1,h2⟩:=h;exact ⟨arr,cl,(hb.block _ (lt_of_block h1)).trans h1,h2⟩
theorem sq {B b:Nat} {w w1 w2:World} (h:Below B w w1) (hg:w1.grownBy w2 (some b)) (hs:B≤w1.heap.size) (hB:B≤b):Below B w w2:=
 h.grown hg hs (by intro r hr;cases hr;exact hB)
theorem vC {b:Nat} {w1 w2:World} (hg:w1.grownBy w2 (some b)):w1.heap.size≤w2.heap.size:=hg.size
theorem CW {b c o:Nat} {v:Value} {w1 w2:World} (hg:w1.grownBy w2 (some b)) (hc:c≠b) (h:w1.cell? ⟨c,o,none⟩=some v):w2.cell? ⟨c,o,none⟩=some v:=
 (I4 (w:=w1) (w':=w2) (a:=⟨c,o,none⟩) (hg.block c (bR h) (by simpa using hc))).trans h
end
section
open Go.RowKit
theorem Fd (w:World) (b o:Nat) (v v':Value):(w.setCell ⟨b,o,none⟩ v).setCell ⟨b,o,none⟩ v'=w.setCell ⟨b,o,none⟩ v':=by
 simp only [World.setCell]
 congr 1
 apply Array.ext_getElem?;intro i;simp only [Array.getElem?_modify];by_cases hi:b=i
 ·simp only [hi,if_true]
  cases w.heap[i]? with
  | none=>rfl
  | some x=>cases x<;>simp
 ·simp only [hi,if_false]
def dP (h b:Nat):Nat:=(h ^^^ b)*16777619 % 4294967296
theorem jA (h b:Nat):dP h b<4294967296:=Nat.mod_lt _ (by decide)
def yd (a b c d:Nat):Nat:=dP (dP (dP (dP 2166136261 a) b) c) d
theorem tq (h b:Nat) (hh:h<4294967296) (hb:b<4294967296):bits .xor .u32 (h:Int) (b:Int)*16777619 % 4294967296=((dP h b:Nat):Int):=by
 rw [u32_xor_nat h b hh hb];unfold dP;omega
theorem uY (B a b c d:Nat) (w:World) (ha:a<256) (hb:b<256) (hc:c<256) (hd:d<256) (h0:w.cell? ⟨B,0,none⟩=some (.int .u8 a)) (h1:w.cell? ⟨B,1,none⟩=some (.int .u8 b)) (h2:w.cell? ⟨B,2,none⟩=some (.int .u8 c)) (h3:w.cell? ⟨B,3,none⟩=some (.int .u8 d)) :
  Calls Tryz.prog 156 #[.slice (some ⟨B,0,none⟩) 4 4] w fun e w'=>e=.returned (.int .i64 (yd a b c d))∧w=w':=by
 have e1:bits .xor .u32 2166136261 (a:Int)*16777619 % 4294967296=((dP 2166136261 a:Nat):Int):=tq 2166136261 a (by decide) (by omega)
 have e2:=tq (dP 2166136261 a) b (jA _ _) (by omega)
 have e3:=tq (dP (dP 2166136261 a) b) c (jA _ _) (by omega)
 have e4:=tq (dP (dP (dP 2166136261 a) b) c) d (jA _ _) (by omega)
 go_enter Tryz.func156,Tryz.ntmps156
 go_wp2
 refine wp_loop_rounds 5 ?_
 rw [rounds_succ]
 go_wp2
 rw [rounds_succ]
 go_wp2
 rw [rounds_succ]
 go_wp2
 rw [rounds_succ]
 go_wp2
 rw [rounds_succ]
 go_wp2
 go_ret
 exact ⟨rI (by unfold yd;have:=jA (dP (dP (dP 2166136261 a) b) c) d;first|rfl|omega|(simp only [IntKind.wrap_i64];omega)),rfl⟩
end
section
def rP (a b:Sp):Bool:=decide (a.hash<b.hash) || (decide (a.hash=b.hash) && decide (a.backend<b.backend))
theorem oY {a b:Sp}:rP a b=true↔a.hash<b.hash∨(a.hash=b.hash∧a.backend<b.backend):=by simp [rP]
theorem lJ {a b:Sp}:rP a b=false↔¬ (a.hash<b.hash∨(a.hash=b.hash∧a.backend<b.backend)):=by rw [← oY];simp
theorem xI (a:Sp):rP a a=false:=by rw [lJ];omega
theorem Ch {a b:Sp} (h1:rP a b=false) (h2:rP b a=false):a=b:=by
 rw [lJ] at h1 h2;exact Q140
def jb (a b:Sp):Bool:=!rP b a
theorem k9 {a b:Sp}:jb a b=true↔¬ (b.hash<a.hash∨(b.hash=a.hash∧b.backend<a.backend)):=by unfold jb;rw [Bool.not_eq_true',lJ]
theorem xG (a b c:Sp) (h1:jb a b=true) (h2:jb b c=true):jb a c=true:=by rw [k9] at *;omega
theorem xH (a b:Sp):(jb a b || jb b a)=true:=by
 have:jb a b=true∨jb b a=true:=by rw [k9,k9];omega
 simpa using this
def Ep (X:List Sp):Prop:=X.Pairwise fun a b=>jb a b=true
def uO (X:List Sp):List Sp:=X.mergeSort jb
theorem oX (X:List Sp):Ep (uO X):=List.pairwise_mergeSort xG xH X
theorem fe (X:List Sp):(uO X).Perm X:=List.mergeSort_perm X jb
theorem Fv:∀ {X Y:List Sp},Ep X→Ep Y→X.Perm Y→X=Y:=by
 intro X
 induction X with
 | nil=>intro Y _ _ h;exact (List.nil_perm.1 h).symm
 | cons a X ih=>
  intro Y hx hy h
  cases Y with
  | nil=>exact absurd h.length_eq (by simp)
  | cons b Y=>
   have hx1:=List.pairwise_cons.1 hx;have hy1:=List.pairwise_cons.1 hy
   have e:a=b:=by
    have ha:a∈b :: Y:=h.mem_iff.1 Ii;have hb:b∈a :: X:=h.mem_iff.2 Ii;rcases List.mem_cons.1 ha with e|ha
    ·exact e
    rcases List.mem_cons.1 hb with e|hb
    ·exact e.symm
    have h1:=hy1.1 a ha;have h2:=hx1.1 b hb;exact Ch (by unfold jb at h1;simpa using h1) (by unfold jb at h2;simpa using h2)
   subst e;rw [ih hx1.2 hy1.2 (List.Perm.cons_inv h)]
theorem ze {X Y:List Sp} (ho:Ep Y) (hp:Y.Perm X):Y=uO X:=Fv ho (oX X) (hp.trans (fe X).symm)
theorem Aj {X Y:List Sp} (h:X.Perm Y):uO X=uO Y:=ze (oX X) ((fe X).trans h)
def spH (b i:Nat):Int:=(yd 98 b i 115:Nat)
def xF (b i:Nat):Sp:=⟨spH b i,b⟩
def cX (b n:Nat):List Sp:=(List.range (4*n)).map (xF b)
def dg (ws:List Nat) (k:Nat):List Sp:=((List.range k).map fun b=>cX b (ws.getD b 0)).flatten
def bO (ws:List Nat):List Sp:=uO (dg ws 12)
theorem dF (ws:List Nat) (k:Nat):dg ws (k+1)=dg ws k++cX k (ws.getD k 0):=by
 unfold dg;rw [List.range_succ,Im,Ih];simp
theorem eB (b n:Nat):(cX b n).length=4*n:=by simp [cX]
theorem rN (ws:List Nat) (h:∀ b,ws.getD b 0≤8):∀ k,(dg ws k).length≤32*k:=by
 intro k
 induction k with
 | zero=>simp [dg]
 | succ k ih=>rw [dF,I8,eB];have:=h k;omega
def jW (X:List Sp) (b:Nat):Nat:=X.countP fun s=>s.backend == (b:Int)
def gh (X:List Sp):List Nat:=(List.range 12).map fun b=>jW X b / 4
def Rg1 (X:List Sp):Prop:=∀ s∈X,0≤s.backend∧s.backend≤11
def Rg2 (X:List Sp):Prop:=∀ b,b<12→jW X b % 4=0∧jW X b≤32
def RgMay (X:List Sp):Prop:=Rg1 X∧Rg2 X∧X=bO (gh X)
theorem kG (X:List Sp) {b:Nat} (h:b<12):(gh X).getD b 0=jW X b / 4:=by simp [gh,List.getD,h]
theorem Cp {X:List Sp} (h:Rg2 X) (b:Nat):(gh X).getD b 0≤8:=by
 by_cases hb:b<12
 ·rw [kG X hb];have:=(h b hb).2;omega
 ·have:(gh X)[b]?=none:=by simp [gh];omega
  simp [List.getD,this]
theorem RgMay.len {X:List Sp} (h:RgMay X):X.length≤384:=by
 have:=rN (gh X) (Cp h.2.1) 12
 have e:X.length=(dg (gh X) 12).length:=by
  rw [show X.length=(bO (gh X)).length by rw [← h.2.2]];exact (fe _).length_eq
 omega
theorem rp (X:List Sp) (b:Nat) {k:Nat} (h:k<X.length):jW (X.take (k+1)) b=jW (X.take k) b+(if (X.getD k Sp.zero).backend=(b:Int) then 1 else 0):=by
 unfold jW;rw [I6 h,List.countP_append];have e:X.getD k Sp.zero=X[k]:=by simp [List.getD,h]
 rw [e];by_cases hb:X[k].backend=(b:Int)<;>simp [hb]
theorem rct_le (X:List Sp) (b:Nat):jW X b≤X.length:=List.countP_le_length
theorem vZ {α:Type} (X:List α) (d:α) {k:Nat} (h:k<X.length):X.getD k d∈X:=by
 have e:X.getD k d=X[k]:=by simp [List.getD,h]
 rw [e];exact Ib h
def kX (X:List Sp) (k:Nat):List Int:=(List.range 12).map fun b=>(jW (X.take k) b:Int)
def fx (X:List Sp) (k:Nat):List Int:=(List.range 12).map fun b=>if b<k then ((jW X b / 4:Nat):Int) else (jW X b:Int)
theorem gQ (X:List Sp) (k:Nat):(kX X k).length=12:=by simp [kX]
theorem dQ (X:List Sp) (k:Nat):(fx X k).length=12:=by simp [fx]
theorem qN (X:List Sp) (k:Nat) {m:Nat} (h:m<12):(kX X k)[m]?=some (jW (X.take k) m:Int):=by simp [kX,h]
theorem jf (X:List Sp) (k:Nat) {m:Nat} (h:m<12):(fx X k)[m]?=some (if m<k then ((jW X m / 4:Nat):Int) else (jW X m:Int)):=by simp [fx,h]
theorem cntK_0 (X:List Sp):(kX X 0).map (Value.int .i64)=List.replicate 12 (.int .i64 0):=by simp [kX,jW];rfl
theorem DZ (X:List Sp) {k:Nat} (h:X.length=k):kX X k=fx X 0:=by
 unfold kX fx;rw [Ia (by omega)];simp
theorem Bt {X:List Sp} {k m:Nat} {s:Sp} (hs:s=X.getD k Sp.zero) (hk:k<X.length) (hm:s.backend=(m:Int)) (h12:m<12):kX X (k+1)=(kX X k).set m ((jW (X.take k) m:Int)+1):=by
 apply List.ext_getElem?;intro j;rw [List.getElem?_set];by_cases hj:j<12
 ·rw [qN _ _ hj,rp X j hk,← hs,hm];by_cases hmj:m=j
  ·subst hmj;rw [if_pos rfl,if_pos rfl,if_pos (by rw [gQ];exact hj)]
   rfl
  ·rw [if_neg hmj,qN _ _ hj,if_neg (by omega)]
   rfl
 ·rw [if_neg (by omega),Ig (by rw [gQ];omega),Ig (by rw [gQ];omega)]
theorem AD (X:List Sp) {k:Nat} (h:k<12):fx X (k+1)=(fx X k).set k ((jW X k / 4:Nat):Int):=by
 apply List.ext_getElem?;intro j;rw [List.getElem?_set];by_cases hj:j<12
 ·rw [jf _ _ hj];by_cases hmj:k=j
  ·subst hmj;rw [if_pos (by omega),if_pos rfl,if_pos (by rw [dQ];exact hj)]
  ·rw [if_neg hmj,jf _ _ hj];by_cases h2:j<k
   ·rw [if_pos h2,if_pos (by omega)]
   ·rw [if_neg h2,if_neg (by omega)]
 ·rw [if_neg (by omega),Ig (by rw [dQ];omega),Ig (by rw [dQ];omega)]
theorem DY {X:List Sp} {k:Nat} {s:Sp} (hs:s=X.getD k Sp.zero) (hk:k<X.length) (h:s.backend<0∨11<s.backend):¬ RgMay X:=fun hm=>by
 have:=hm.1 s (by rw [hs];exact vZ X _ hk);omega
theorem vB {X:List Sp} {k:Nat} (hk:k<12) (h:jW X k % 4≠0∨32<jW X k):¬ RgMay X:=fun hm=>by
 have:=hm.2.1 k hk;omega
theorem Cq {X:List Sp} {k:Nat} (hk:k<X.length) (h:Rg1 (X.take k)) (h1:0≤(X.getD k Sp.zero).backend) (h2:(X.getD k Sp.zero).backend≤11):Rg1 (X.take (k+1)):=by
 intro s hs;rw [I6 hk,List.mem_append,List.mem_singleton] at hs;rcases hs with hs|rfl
 ·exact h s hs
 ·have e:X.getD k Sp.zero=X[k]:=by simp [List.getD,hk]
  rw [e] at h1 h2;exact ⟨h1,h2⟩
theorem uG {X:List Sp} {k:Nat} (h2:∀ b,b<k→jW X b % 4=0∧jW X b≤32) (hk:k≤12):(dg (gh X) k).length≤32*k:=by
 induction k with
 | zero=>simp [dg]
 | succ k ih=>
  rw [dF,I8,eB,kG X (by omega)];have:=ih (fun b hb=>h2 b (by omega)) (by omega);have:=h2 k (by omega);omega
end
section
open Go.RowKit
theorem pK {b:Nat} {t:TypeId}:∀ (vs:List Value) (o:Nat) (cur:Array Value) (w:World),w.heap[b]?=some (.cells cur t (0,0))→∃ cur',(w.setCells b o vs).heap[b]?=some (.cells cur' t (0,0))∧cur'.size=cur.size∧∀ k,k≤o→cur'.toList.take k=cur.toList.take k:=by
 intro vs
 induction vs with
 | nil=>exact fun o cur w h=>⟨cur,h,rfl,fun _ _=>rfl⟩
 | cons v vs ih=>
  intro o cur w h;obtain ⟨cur',h1,h2,h3⟩:=ih (o+1) _ (w.setCell ⟨b,o,none⟩ v) (aP h v);refine ⟨cur',h1,by rw [h2];simp,fun k hk=>?_⟩;rw [h3 k (by omega),Array.toList_setIfInBounds,List.take_set,List.set_eq_of_length_le (by rw [Ie];omega)]
theorem nV {b:Nat}:∀ (vs:List Value) (o:Nat) (w:World) (k:Nat),k≠b→(w.setCells b o vs).heap[k]?=w.heap[k]?:=by
 intro vs
 induction vs with
 | nil=>exact fun _ _ _ _=>rfl
 | cons v vs ih=>intro o w k hk;exact (ih (o+1) _ k hk).trans (Hy _ _ _ _ hk)
theorem l9 {b:Nat}:∀ (vs:List Value) (o:Nat) (w:World),(w.setCells b o vs).heap.size=w.heap.size:=by
 intro vs
 induction vs with
 | nil=>exact fun _ _=>rfl
 | cons v vs ih=>intro o w;rw [World.setCells,ih];simp
theorem kb {b B:Nat} {a:World} (hB:B≤b):∀ (vs:List Value) (o:Nat) (w:World),Below B a w→Below B a (w.setCells b o vs):=by
 intro vs
 induction vs with
 | nil=>exact fun _ _ h=>h
 | cons v vs ih=>intro o w h;exact ih (o+1) _ (h.setCell (by simpa using hB) _)
theorem kJ {w:World} {B sz n cap g i:Nat} {t:TypeId} {cs:List Value} (h:w.ownsRow B t sz (.slice (some ⟨g,0,none⟩) n cap) n cs) (hi:i≤n):w.ownsRow B t sz (.slice (some ⟨g,0,none⟩) i cap) i (cs.take (i*sz)):=by
 rcases h.2 with ⟨e0,_⟩|⟨g',cap',cur,e0,hb,hg,hn,hm,hs,ht⟩
 ·cases e0
 ·injection e0 with e1 _ e3;injection e1 with e1;injection e1 with e1;subst e1;subst e3;have hle:i*sz≤n*sz:=If _ hi;refine ⟨by rw [Ie,h.1];omega,.inr ⟨g,cap,cur,rfl,hb,hg,by omega,hm,hs,?_⟩⟩;rw [← ht,List.take_take,Nat.min_eq_left hle]
theorem om {w:World} {B sz n cap g i o:Nat} {t:TypeId} {cs:List Value} (h:w.ownsRow B t sz (.slice (some ⟨g,0,none⟩) n cap) n cs) (hi:i≤n) (ho:i*sz≤o) (vs:List Value):(w.setCells g o vs).ownsRow B t sz (.slice (some ⟨g,0,none⟩) i cap) i (cs.take (i*sz)):=by
 have h':=kJ h hi;rcases h'.2 with ⟨e0,_⟩|⟨g',cap',cur,e0,hb,hg,hn,hm,hs,ht⟩
 ·cases e0
 ·injection e0 with e1 _ e3;injection e1 with e1;injection e1 with e1;subst e1;subst e3;obtain ⟨cur',h1,h2,h3⟩:=pK vs o cur w hg;refine ⟨h'.1,.inr ⟨g,cap,cur',rfl,hb,h1,hn,hm,by rw [h2];exact hs,?_⟩⟩;rw [h3 _ ho,ht]
theorem jK {P:Program} (w:World) (t e ty:TypeId) (i0:TypeInfo) (z:Value) (g o n c:Nat) (hu:P.underlying t=some (.slice e)) (hi:P.info? e=some i0) (hz:i0.zero=some z)
  (hc:∀ j,j<n*z.cells.size→(w.cell? ⟨g,o+j,none⟩).isSome=true) (hf:∀ j,w.frozen? ⟨g,o+j,none⟩=false) (h1:∀ v∈z.cells.toList,v.oneCell'=true) :
  ∃ vs:List Value,(Builtin.clear_ #[t] ty #[.slice (some ⟨g,o,none⟩) n c]).run P w=.ok (.tuple #[]) (w.setCells g o vs):=by
 cases n with
 | zero=>exact ⟨[],by simp [Builtin.clear_,run_underlying hu,World.setCells]⟩
 | succ n=>
  have hl:(Builtin.zeroCells z.cells (n+1)).toList.length=(n+1)*z.cells.size:=by simp [Builtin.zeroCells]
  have hst:=run_storeCells_cells (P:=P) g o (Builtin.zeroCells z.cells (n+1)).toList 0 w (by intro j hj;rw [hl] at hj;exact hc j hj) (by intro j _;exact hf j) (by
   intro v hv;simp only [Builtin.zeroCells,Array.toList_map,Io,Array.toList_range,List.mem_range] at hv;obtain ⟨k,hk,rfl⟩:=hv
   have hpos:0<z.cells.size:=by
    rcases Nat.eq_zero_or_pos z.cells.size with h|h
    ·rw [h] at hk;simp at hk
    ·exact h
   have hlt:k % z.cells.size<z.cells.size:=Nat.mod_lt _ hpos;rw [getElem!_pos z.cells _ hlt]
   exact h1 _ (Array.getElem_mem_toList hlt))
  refine ⟨(Builtin.zeroCells z.cells (n+1)).toList,?_⟩;rw [Nat.add_zero] at hst;simp [Builtin.clear_,run_underlying hu,zeroValue,typeInfo,hi,hz,hst]
theorem tL {w:World} {B sz n cap g:Nat} {t:TypeId} {cs:List Value} (h:w.ownsRow B t sz (.slice (some ⟨g,0,none⟩) n cap) n cs):n≤cap∧cap≤maxLen:=by
 rcases h.2 with ⟨e0,_⟩|⟨g',cap',cur,e0,_,_,hn,hm,_⟩
 ·cases e0
 ·injection e0 with _ _ e3;subst e3;exact ⟨hn,hm⟩
theorem yB {P:Program} {w:World} (t e ty:TypeId) {i0:TypeInfo} (z:Value) (sz g n cap i c B:Nat) {cs:List Value} (hu:P.underlying t=some (.slice e)) (hi:P.info? e=some i0) (hz:i0.zero=some z) (hs:z.cells.size=sz)
  (h1:∀ v∈z.cells.toList,v.oneCell'=true) (hown:w.ownsRow B e sz (.slice (some ⟨g,0,none⟩) n cap) n cs) (hin:i≤n) :
  ∃ W2:World,(Builtin.clear_ #[t] ty #[.slice (some ⟨g,i*sz,none⟩) (n - i) c]).run P w=.ok (.tuple #[]) W2∧(∀ b,b≠g→W2.heap[b]?=w.heap[b]?)∧W2.heap.size=w.heap.size∧Below B w W2∧W2.ownsRow B e sz (.slice (some ⟨g,0,none⟩) i cap) i (cs.take (i*sz)):=by
 have hgB:B≤g:=(hown.lt _ rfl).1
 obtain ⟨vs,hrun⟩:=jK (P:=P) w t e ty i0 z g (i*sz) (n - i) c hu hi hz (by
  intro j hj;rw [hs] at hj
  have h2:i*sz+j<n*sz:=by
   have:(i+(n - i))*sz=n*sz:=by rw [show i+(n - i)=n by omega]
   rw [Nat.add_mul] at this;omega
  rw [hown.cellAt _ h2]
  have:i*sz+j<cs.length:=by rw [hown.1];exact h2
  simp [this]) (fun j=>hown.frozenAt _) h1
 exact ⟨_,hrun,fun b hb=>nV vs _ w b hb,l9 vs _ w,kb hgB vs _ w (Hq _ _),om hown hin (Hz _) vs⟩
end
section
theorem qF (ws:List Nat) (b c n:Nat) (h:b<ws.length):(ws.set b n).getD c 0=if b=c then n else ws.getD c 0:=by
 simp only [List.getD,List.getElem?_set,if_pos h];by_cases hb:b=c
 ·subst hb;simp
 ·simp [hb]
theorem uH {ws vs:List Nat} {k:Nat} (h:∀ b,b<k→ws.getD b 0=vs.getD b 0):dg ws k=dg vs k:=by
 induction k with
 | zero=>simp [dg]
 | succ k ih=>rw [dF,dF,ih (fun b hb=>h b (by omega)),h k (by omega)]
theorem pv {ws:List Nat} {b n:Nat} (hb:b<ws.length) (h0:ws.getD b 0=0):∀ k,b<k→(dg (ws.set b n) k).Perm (dg ws k++cX b n):=by
 intro k
 induction k with
 | zero=>omega
 | succ k ih=>
  intro h;rw [dF,dF,qF ws b k n hb];by_cases hk:b=k
  ·subst hk;rw [if_pos rfl,h0,uH (vs:=ws) (fun c hc=>by rw [qF ws b c n hb,if_neg (by omega)])];simp [cX]
  ·rw [if_neg hk];refine ((ih (by omega)).append_right _).trans ?_;rw [List.append_assoc,List.append_assoc];exact List.Perm.append_left _ List.perm_append_comm
theorem xL {X:List Sp} {b n:Nat} (hX:RgMay X) (hb:b<12) (h0:(gh X).getD b 0=0):uO (X++cX b n)=bO ((gh X).set b n):=by
 unfold bO;refine Aj ?_;have hp:=pv (n:=n) (show b<(gh X).length by simp [gh];exact hb) h0 12 hb;refine List.Perm.trans ?_ hp.symm;refine List.Perm.append_right _ ?_;exact Q128
theorem gL {b n:Nat} {s:Sp} (h:s∈cX b n):s.backend=(b:Int):=by
 simp only [cX,Io] at h;obtain ⟨i,_,rfl⟩:=h
 rfl
theorem tc (ws:List Nat) (b:Nat) (hb:b<ws.length):∀ k,(dg ws k).filter (fun s=>!(s.backend == (b:Int)))=dg (ws.set b 0) k:=by
 intro k
 induction k with
 | zero=>simp [dg]
 | succ k ih=>
  rw [dF,dF,List.filter_append,ih,qF ws b k 0 hb]
  congr 1
  by_cases hk:b=k
  ·subst hk;rw [if_pos rfl,show cX b 0=[] by simp [cX]];refine List.filter_eq_nil_iff.2 fun s hs=>?_;rw [gL hs];simp
  ·rw [if_neg hk];refine List.filter_eq_self.2 fun s hs=>?_;rw [gL hs];simp only [Bool.not_eq_true',beq_eq_false_iff_ne,ne_eq];omega
theorem xY {X:List Sp} (h:Ep X) (p:Sp→Bool):Ep (X.filter p):=List.Pairwise.filter p h
theorem tu {X:List Sp} {b:Nat} (hX:RgMay X) (hb:b<12):X.filter (fun s=>!(s.backend == (b:Int)))=bO ((gh X).set b 0):=by
 unfold bO;refine ze (xY (by rw [hX.2.2];exact oX _) _) ?_;rw [← tc (gh X) b (by simp [gh];exact hb) 12];refine List.Perm.filter _ ?_;exact Q128
def yQ (X:List Sp) (b wt:Int) (L:List Sp) (c:Int):Prop:=
 (¬ RgMay X∧L=[]∧c=6)∨(RgMay X∧(b<0∨11<b∨wt<1∨8<wt)∧L=[]∧c=2)∨
 ∃ n m:Nat,RgMay X∧b=n∧n<12∧wt=m∧1≤m∧m≤8∧((0<(gh X).getD n 0∧L=[]∧c=7)∨((gh X).getD n 0=0∧L=bO ((gh X).set n m)∧c=0))
def ur (X:List Sp) (b:Int) (L:List Sp) (c:Int):Prop:=
 (¬ RgMay X∧L=[]∧c=6)∨(RgMay X∧(b<0∨11<b)∧L=[]∧c=8)∨
 ∃ n:Nat,RgMay X∧b=n∧n<12∧(((gh X).getD n 0=0∧L=[]∧c=8)∨(0<(gh X).getD n 0∧L=bO ((gh X).set n 0)∧c=0))
end
end Go.Proofs.YtneailjecbfljaaGreatDoor
