/- Texts of the row's proof. Conditions: none. -/
import Derived.Lib.Hide
import Derived.WalkLawsBesides
import Derived.WalkSpells
import Derived.Test.YtennppmadmgfoaaGreatDoorK01
namespace Go.Proofs.YtennppmadmgfoaaGreatDoor
open Proofs.Tryz
set_option maxRecDepth 100000
set_option maxHeartbeats 8000000
section
open Go.RowKit
theorem KL:type_of% @Lib.hid:=@Lib.hid
theorem KM:type_of% @Below.refl:=@Below.refl
theorem KN:type_of% @Below.drew:=@Below.drew
theorem KO:type_of% @Below.setCell:=@Below.setCell
theorem KQ:type_of% @Below.heap_alloc:=@Below.heap_alloc
theorem KS:type_of% @Below.trans:=@Below.trans
theorem KU:type_of% @Below.alloc:=@Below.alloc
theorem KV:type_of% @Below.heap_setCell:=@Below.heap_setCell
theorem Lg:type_of% @World.cell?_of_block:=@World.cell?_of_block
theorem LJ:type_of% @World.ownsRow_nil:=@World.ownsRow_nil
theorem LK:type_of% @IntWalk.i64_in:=@IntWalk.i64_in
theorem LN:type_of% @bodyPost_ret:=@bodyPost_ret
theorem LO:type_of% @wpList_load_row:=@wpList_load_row
theorem LP:type_of% @wpList_store_row:=@wpList_store_row
theorem LQ:type_of% @wp_store_row:=@wp_store_row
theorem Q94 {p:Prop} (h:p:=by
 obtain ⟨h1,h2|⟨g,cap,cur,h3,h4,h5,h6⟩⟩:=h
 ·exact ⟨h1,Or.inl h2⟩
 ·exact ⟨h1,Or.inr ⟨g,cap,cur,h3,h4,(hb.block _ (lt_of_block h5)).trans h5,h6⟩⟩):p:=h
theorem Q114 {p:Prop} (h:p:=by
 have:=fq (dm (gx X) 12);rw [show wQ (dm (gx X) 12)=bR (gx X) from rfl,<- hX.2.2] at this;exact this):p:=h
theorem Q126 {p:Prop} (h:p:=by
 obtain ⟨x,y⟩:=a;obtain ⟨z,u⟩:=b;simp only at h1 h2;have:x=z:=by omega
 have:y=u:=by omega
 simp_all):p:=h
@[go_sem] theorem lt_2 (n:Nat):n<n+1+1:=by omega
@[go_sem] theorem lt_3 (n:Nat):n<n+1+1+1:=by omega
@[go_sem] theorem lt_4 (n:Nat):n<n+1+1+1+1:=by omega
@[go_sem] theorem lt_5 (n:Nat):n<n+1+1+1+1+1:=by omega
@[go_sem] theorem lt_6 (n:Nat):n<n+1+1+1+1+1+1:=by omega
@[go_sem] theorem lt_7 (n:Nat):n<n+1+1+1+1+1+1+1:=by omega
@[go_sem] theorem lt_8 (n:Nat):n<n+1+1+1+1+1+1+1+1:=by omega
@[go_sem] theorem lt_9 (n:Nat):n<n+1+1+1+1+1+1+1+1+1:=by omega
@[go_sem] theorem lt_10 (n:Nat):n<n+1+1+1+1+1+1+1+1+1+1:=by omega
@[go_sem] theorem lt_11 (n:Nat):n<n+1+1+1+1+1+1+1+1+1+1+1:=by omega
@[go_sem] theorem lt_12 (n:Nat):n<n+1+1+1+1+1+1+1+1+1+1+1+1:=by omega
theorem jb {a d A D:Int} (z:0<=a) (E:a<=A) (h:0<=d) (I:d<=D):0<=a*d/\a*d<=A*D:=
 ⟨Int.mul_nonneg z h,Int.mul_le_mul E I h (by omega)⟩
theorem aM {B n:Nat} {a w:World} (h:Below B a w):Below B a (w.drewN n):=below_drewN h n
theorem aX {W z:World} {n:Nat} (E:Below n W z):(∀ b o,b<n->z.cell? ⟨b,o,none⟩=W.cell? ⟨b,o,none⟩)/\(∀ b o,b<n->z.frozen? ⟨b,o,none⟩=W.frozen? ⟨b,o,none⟩):=
 ⟨fun b o h=>E.cell (p:=⟨b,o,none⟩) h,fun b o h=>E.frozen (p:=⟨b,o,none⟩) h⟩
theorem fX {W h:World} {n:Nat} (z:Below n W h):∀ k,k<W.heap.size->k<h.heap.size:=fun _ E=>Nat.lt_of_lt_of_le E z.size
theorem rI {k:IntKind} {a b:Int} (h:a=b):Ending.returned (.int k a)=.returned (.int k b):=by rw [h]
theorem rII {k l:IntKind} {a b c d:Int} (h:a=b) (z:c=d):Ending.returned (.tuple #[.int k a,.int l c])=.returned (.tuple #[.int k b,.int l d]):=by rw [h,z]
theorem rB {a b:Bool} (h:a=b):Ending.returned (.bool a)=.returned (.bool b):=by rw [h]
def aK (w:World) (sz:Nat) (v:Value) (L:List (List Value)):Prop:=
 ∃ (z:Option Addr) (h:Nat),v=.slice z L.length h/\L.length<=h/\h<=maxLen/\(z=none->h=0)/\
  (L≠[]->∃ E K,z=some ⟨E,K,none⟩/\E<w.heap.size/\∀ I J,I<L.length->J<sz->w.cell? ⟨E,K+I*sz+J,none⟩=(L.getD I [])[J]?)
theorem bV {w:World} {b o:Nat} {v:Value} (h:w.cell? ⟨b,o,none⟩=some v):b<w.heap.size:=by
 unfold World.cell? at h;by_cases hb:b<w.heap.size
 ·exact hb
 ·rw [Array.getElem?_eq_none (by simpa using hb)] at h
  cases h
theorem qa {w:World} {ks:List (Option IntKind)} {by_:Nat} {v:Value} {L:List (List Value)} (h:vP w ks by_ v L) (hk:0<ks.length):aK w ks.length v L/\L.length*by_<=140737488351232:=by
 obtain ⟨a,cap,rfl,h1,h2,h6,h3,h4,h5⟩:=h;refine ⟨⟨a,cap,rfl,h1,h2,h3,fun hne=>?_⟩,h6⟩
 have hpos:0<L.length:=by cases L with
  | nil=>exact absurd rfl hne
  | cons x xs=>simp
 cases a with
 | none=>have:=h3 rfl;omega
 | some ad=>
  obtain ⟨b,off,spot⟩:=ad;have h0:=h5 _ rfl 0 0 hpos hk;simp only [Nat.zero_mul,Nat.add_zero,Addr.add,if_true] at h0
  have hl:(L.getD 0 []).length=ks.length:=by
   have:L.getD 0 []∈L:=by simp only [List.getD,Lj hpos,LI];exact Lp _
   exact vY (h4 _ this)
  have hsp:spot=none:=by
   rw [Lj (by omega)] at h0;simpa using World.cell?_spot h0
  subst hsp;refine ⟨b,off,rfl,?_,?_⟩
  ·rw [Lj (by omega)] at h0;exact bV h0
  ·intro i j hi hj;have:=h5 _ rfl i j hi hj;rw [<- this]
   congr 1
   unfold Addr.add
   split
   ·rename_i hz
    have hij:i*ks.length=0/\j=0:=by omega
    rw [hij.1,hij.2]
    rfl
   ·rw [Nat.add_assoc]
theorem aq {w w':World} {sz:Nat} {v:Value} {L:List (List Value)} (Z:aK w sz v L) (E:Below w.heap.size w w'):aK w' sz v L:=by
 obtain ⟨U,Y,rfl,h1,h2,h3,h4⟩:=Z;refine ⟨U,Y,rfl,h1,h2,h3,fun a0=>?_⟩;obtain ⟨h,K,rfl,z,h6⟩:=h4 a0;exact ⟨h,K,rfl,Nat.lt_of_lt_of_le z E.size,fun I J hi hj=>by rw [E.cell (p:=⟨h,K+I*sz+J,none⟩) z];exact h6 I J hi hj⟩
theorem ai {w:World} {sz:Nat} {v:Value} {L:List (List Value)} (h:aK w sz v L) (o:Obj):aK (w.alloc o) sz v L:=
 aq h ((KM _ _).alloc (KY _) _)
theorem dH {w:World} {sz:Nat} {v:Value} {L:List (List Value)} (h:aK w sz v L) (n:Nat):aK (w.drewN n) sz v L:=
 aq h (below_drewN (KM _ _) n)
theorem fy {sz:Nat}:∀ {L:List (List Value)},(∀ c∈L,c.length=sz)->∀ i j,i<L.length->j<sz->L.flatten[i*sz+j]?=(L.getD i [])[j]?:=by
 intro L
 induction L with
 | nil=>intro _ i j h;simp at h
 | cons c L ih=>
  intro z i j h K;have I:=z c Lw
  cases i with
  | zero=>
   simp only [List.flatten_cons,Nat.zero_mul,Nat.zero_add,List.getD_cons_zero];rw [LR (by omega)]
  | succ i=>
   simp only [List.flatten_cons,List.getD_cons_succ]
   have E:(i+1)*sz+j=sz+(i*sz+j):=by rw [Nat.add_mul];omega
   rw [LU (by omega),E,I,Nat.add_sub_cancel_left];exact ih (fun d J=>z d (Ly _ J)) i j (by simpa using h) K
theorem aP {sz:Nat}:∀ {L:List (List Value)},(∀ c∈L,c.length=sz)->L.flatten.length=L.length*sz:=by
 intro L
 induction L with
 | nil=>intro _;simp
 | cons c L ih=>
  intro h;have z:=h c Lw;simp only [List.flatten_cons,Ll,List.length_cons,Nat.add_mul,Nat.one_mul];rw [ih (fun d E=>h d (Ly _ E)),z];omega
theorem fS {w:World} {base e sz n:Nat} {v:Value} {L:List (List Value)} (J:w.ownsRow base e sz v n L.flatten) (hn:L.length=n) (hl:∀ c∈L,c.length=sz):aK w sz v L:=by
 subst hn;rcases J.2 with ⟨rfl,Z⟩|⟨E,Y,a3,rfl,hg,K,a2,a0,a4,a5⟩
 ·have hL:L=[]:=List.length_eq_zero_iff.1 Z;subst hL;exact ⟨none,0,rfl,by simp,by unfold maxLen;omega,fun _=>rfl,fun U=>absurd rfl U⟩
 ·refine ⟨some ⟨E,0,none⟩,Y,rfl,a2,a0,by simp,fun U=>⟨E,0,rfl,?_,fun h z hi hj=>?_⟩⟩
  ·rcases Nat.lt_or_ge E w.heap.size with I|I
   ·exact I
   ·rw [Array.getElem?_eq_none I] at K
    cases K
  ·have a1:h*sz+z<L.length*sz:=by
    have:(h+1)*sz<=L.length*sz:=Lt _ (by omega);rw [Nat.add_mul] at this;omega
   rw [show 0+h*sz+z=h*sz+z by omega,J.cellAt (h*sz+z) a1];exact fy hl h z hi hj
theorem Au {w:World} {sz:Nat} {b off:Nat} {L:List (List Value)} (hsz:0<sz) (hl:∀ c∈L,c.length=sz) (h:∀ i j,i<L.length->j<sz->w.cell? ⟨b,off+i*sz+j,none⟩=(L.getD i [])[j]?) :
  ∀ k u,L.flatten[k]?=some u->w.cell? ((⟨b,off,none⟩:Addr).add k)=some u:=by
 intro k u hu
 have hk:k<L.flatten.length:=by
  rcases Nat.lt_or_ge k L.flatten.length with h'|h'
  ·exact h'
  ·rw [Lu h'] at hu
   cases hu
 rw [aP hl] at hk
 have hi:k / sz<L.length:=(Nat.div_lt_iff_lt_mul hsz).2 hk
 have hj:k % sz<sz:=Nat.mod_lt _ hsz
 have e:k / sz*sz+k % sz=k:=by rw [Nat.mul_comm];exact Nat.div_add_mod k sz
 have h1:=h _ _ hi hj
 rw [show off+k / sz*sz+k % sz=off+k by omega] at h1
 rw [Go.WideShapes.add_plain,h1,<- fy hl _ _ hi hj,e,hu]
theorem pH {w:World} {sz:Nat} {v:Value} {L:List (List Value)} (z:aK w sz v L):∃ a h,v=.slice a L.length h/\(a=none->L=[]):=by
 obtain ⟨a,h,rfl,J,_,E,_⟩:=z;exact ⟨a,h,rfl,fun I=>List.length_eq_zero_iff.1 (by have:=E I;omega)⟩
theorem aB {w:World} {k:Nat} (o:Obj) (h:k=w.heap.size):(w.alloc o).heap[k]?=some o:=by
 subst h;show (w.heap.push o)[w.heap.size]?=some o
 simp
theorem aI {w:World} {b o:Nat} {v:Value} (X:Obj) (h:w.cell? ⟨b,o,none⟩=some v):(w.alloc X).cell? ⟨b,o,none⟩=some v:=by
 rw [World.cell?_alloc_past _ _ _ (bV h)];exact h
theorem aE {w:World} {base e sz n:Nat} {v:Value} {xs:List Value} (h:w.ownsRow base e sz v n xs):∃ a E,v=.slice a n E/\(a=none->n=0/\E=0)/\(∀ z,a=some z->base<=z.block/\z.spot=none/\z.off=0):=by
 rcases h.2 with ⟨rfl,I⟩|⟨J,E,U,rfl,K,_⟩
 ·exact ⟨none,0,by rw [I],(fun _=>⟨I,rfl⟩),(fun _ h=>by cases h)⟩
 ·exact ⟨some ⟨J,0,none⟩,E,rfl,(fun h=>by cases h),(fun z h=>by cases h;exact ⟨K,rfl,rfl⟩)⟩
theorem fH (h:Array Value) (n:Nat) (Y:0<h.size):(madeCells h (n*h.size)).toList=(List.replicate n h.toList).flatten:=by
 have U:∀ I∈List.replicate n h.toList,I.length=h.size:=by
  intro I hc;rw [List.eq_of_mem_replicate hc];simp
 apply List.ext_getElem?;intro k;rcases Nat.lt_or_ge k (n*h.size) with z|z
 ·have E:k / h.size<(List.replicate n h.toList).length:=by rw [List.length_replicate];exact (Nat.div_lt_iff_lt_mul Y).2 z
  have K:k % h.size<h.size:=Nat.mod_lt _ Y
  have Z:k / h.size*h.size+k % h.size=k:=by rw [Nat.mul_comm];exact Nat.div_add_mod k h.size
  have J:=fy U _ _ E K;rw [Z] at J;rw [J];rw [List.length_replicate] at E;simp [madeCells,z,List.getD,E,K]
 ·rw [Lu (by simpa [madeCells] using z),Lu (by rw [aP U];simpa using z)]
theorem kJ {w:World} (c:List Value) (T:TypeId):∀ j u,c[j]?=some u->(w.alloc (.cells c.toArray T)).cell? ((⟨w.heap.size,0,none⟩:Addr).add j)=some u:=by
 intro j u h;rw [Go.WideShapes.add_plain];simp [h]
theorem ap {α:Type} {f:α->List Value} {X:List α} {w:World} {sz:Nat} {v:Value} (z:aK w sz v (X.map f)):∃ a h,v=.slice a X.length h/\(a=none->X=[]):=by
 obtain ⟨a,h,rfl,I⟩:=pH z;exact ⟨a,h,by simp,fun E=>by simpa using I E⟩
def aN (B:Nat) (w:World) (sz:Nat) (v:Value) (L:List (List Value)):Prop:=aK w sz v L/\∀ a n c,v=.slice (some a) n c->B<=a.block
theorem aG {w:World} {base e sz n:Nat} {v:Value} {L:List (List Value)} (z:w.ownsRow base e sz v n L.flatten) (K:L.length=n) (J:∀ c∈L,c.length=sz):aN base w sz v L:=by
 refine ⟨fS z K J,fun E m c U=>?_⟩;obtain ⟨Y,Z,h,_,I⟩:=aE z;rw [U] at h;simp only [Value.slice.injEq] at h;exact (I E h.1.symm).1
theorem aD {B:Nat} {w:World} {sz:Nat} {v:Value} {L:List (List Value)} (U:aN B w sz v L) {p:Addr} (hp:p.block<B) (u:Value):aN B (w.setCell p u) sz v L:=by
 obtain ⟨⟨a,K,rfl,Y,Z,h3,h4⟩,z⟩:=U;refine ⟨⟨a,K,rfl,Y,Z,h3,fun a1=>?_⟩,z⟩;obtain ⟨h,J,rfl,h6,h7⟩:=h4 a1;have hB:=z _ _ _ rfl;have a0:(w.setCell p u).heap[h]?=w.heap[h]?:=KV _ _ _ _ (by simp only at hB;omega);refine ⟨h,J,rfl,by simpa using h6,fun E I hi hj=>?_⟩;rw [Lg (w:=w) (w':=w.setCell p u) (a:=⟨h,J+E*sz+I,none⟩) a0];exact h7 E I hi hj
theorem aJ {B B':Nat} {w:World} {sz:Nat} {v:Value} {L:List (List Value)} (h:aN B w sz v L) (z:B'<=B):aN B' w sz v L:=⟨h.1,fun a n c E=>Lz z (h.2 a n c E)⟩
theorem iB {B:Nat} {w w':World} {sz:Nat} {v:Value} {L:List (List Value)} (h:aN B w sz v L) (z:Below w.heap.size w w'):aN B w' sz v L:=⟨aq h.1 z,h.2⟩
theorem fe {P:Program} {E:Func} {p q:Tmp} {z:TypeId} (I:E.results=#[.cell p z,.tmp q]) (h:Array Value) (w:World) (g:Nat) (t:TypeId) (cs:Array Value) (fr:Nat×Nat) (d:TypeDesc) (u:Value)
  (Y:h.getD p undef=.pointer (some ⟨g,0,none⟩)) (hq:h.getD q undef=u) (K:w.heap[g]?=some (.cells cs t fr))
  (hu:P.underlying z=some d) (J:(match d with|.struct _|.array _ _=>true|_=>false)=true) (U:(P.info? z).map (·.size)=some cs.size) :
  (results E h).run P w=.ok (.tuple #[.agg cs,u]) w:=by
 have Z:h[p]?.getD undef=.pointer (some ⟨g,0,none⟩):=by simpa using Y
 have a0:h[q]?.getD undef=u:=by simpa using hq
 simp [results,I,Z,a0,asAddr,run_loadVar_row w g t z cs fr d K hu J U]
theorem aW {w:World} {b g o i:Nat} {u:Value} (h:b≠g):(w.setCell ⟨g,i,none⟩ u).cell? ⟨b,o,none⟩=w.cell? ⟨b,o,none⟩:=
 Lg (w:=w) (w':=w.setCell ⟨g,i,none⟩ u) (a:=⟨b,o,none⟩) (KV _ _ _ _ h)
theorem dn {w:World} {b o:Nat} {v:Value} (n:Nat) (h:w.cell? ⟨b,o,none⟩=some v):(w.drewN n).cell? ⟨b,o,none⟩=some v:=((aM (n:=n) (KM (b+1) w)).cell (p:=⟨b,o,none⟩) (Nat.lt_succ_self b)).trans h
theorem cq {w:World} {b o:Nat} {v:Value} (h:w.cell? ⟨b,o,none⟩=some v):w.drew.cell? ⟨b,o,none⟩=some v:=dn 1 h
theorem ah {w w':World} {n b o:Nat} {v:Value} (z:Below n w w') (h:w.cell? ⟨b,o,none⟩=some v) (E:b<n):w'.cell? ⟨b,o,none⟩=some v:=(z.cell (p:=⟨b,o,none⟩) E).trans h
theorem aC {w w':World} {b o:Nat} {v:Value} (z:Below w.heap.size w w') (h:w.cell? ⟨b,o,none⟩=some v):w'.cell? ⟨b,o,none⟩=some v:=ah z h (bV h)
theorem dY {B:Nat} {w:World} {sz:Nat} {v:Value} {L:List (List Value)} (h:aN B w sz v L) (n:Nat):aN B (w.drewN n) sz v L:=iB h (below_drewN (KM _ _) n)
theorem cX {B:Nat} {w:World} {sz:Nat} {v:Value} {L:List (List Value)} (h:aN B w sz v L) (o:Obj):aN B (w.alloc o) sz v L:=iB h ((KM _ _).alloc (KY _) _)
theorem iG (w:World) (sz:Nat):aK w sz (.slice none 0 0) []:=⟨none,0,rfl,by simp,by unfold maxLen;omega,fun _=>rfl,fun h=>absurd rfl h⟩
theorem oU {B:Nat} {w:World} {sz:Nat} {v:Value} {L:List (List Value)} (h:aN B w sz v L):aK w sz v L:=h.1
theorem bH (B:Nat) (w:World) (sz:Nat):aN B w sz (.slice none 0 0) []:=⟨iG w sz,fun a n c h=>by cases h⟩
def K8 (w:World) (sz:Nat) (L:List (List Value)) (e:Ending) (w':World):Prop:=∃ v,e=.returned v/\aN w.heap.size w' sz v L/\Below w.heap.size w w'
theorem RowAt_lt {w:World} {sz:Nat} {v:Value} {L:List (List Value)} (h:aK w sz v L):L.length<=maxLen:=by
 obtain ⟨z,E,rfl,I,J,_⟩:=h;omega
theorem ae {w:World} {b:Nat} {cs:Array Value} {T:TypeId} {fr:Nat×Nat} (h:w.heap[b]?=some (.cells cs T fr)) (j:Nat):w.cell? ⟨b,j,none⟩=cs[j]?:=by
 simp [World.cell?,h]
theorem az {w:World} {b:Nat} {cs:Array Value} {T:TypeId} (h:w.heap[b]?=some (.cells cs T (0,0))) (j:Nat):w.frozen? ⟨b,j,none⟩=false:=by
 simp [World.frozen?,h]
theorem bF {wr w':World} {B sz n:Nat} {t:TypeId} {v:Value} {cs:List Value} (h:wr.ownsRow B t sz v n cs) (hb:Below wr.heap.size wr w'):w'.ownsRow B t sz v n cs:=by
 exact Q94
theorem cP {B:Nat} {wr I w1:World} {e:TypeId} {sz n h:Nat} {a:Option Addr} {cs:List Value} (E:Below wr.heap.size wr I) (z:B<=wr.heap.size) (K:wr.ownsRow B e sz (.slice a n h) n cs) (J:I.grownBy w1 (Value.slice a n h).ownBlock):Below B wr w1:=
 (E.mono z).trans ((KM _ _).grown J (Lz z E.size) (by
  intro Y U
  exact (K.lt Y U).1))
theorem aR {w:World} {b j:Nat} {arr:Array Value} {T:TypeId} {fr:Nat×Nat} (h:w.heap[b]?=some (.cells arr T fr)) (u:Value):(w.setCell ⟨b,j,none⟩ u).heap[b]?=some (.cells (arr.setIfInBounds j u) T fr):=by
 have z:=lt_of_block h;have E:w.heap[b]=.cells arr T fr:=by simpa [Array.getElem?_eq_getElem z] using h
 show (w.heap.modify b _)[b]?=_
 rw [Array.getElem?_eq_getElem (by simpa using z),Array.getElem_modify_self,E]
 rfl
theorem aY {w:World} {b g j:Nat} {x:Option Obj} {u:Value} (h:w.heap[b]?=x) (z:b≠g):(w.setCell ⟨g,j,none⟩ u).heap[b]?=x:=(KV _ _ _ _ z).trans h
theorem aj {w w':World} {n b:Nat} {x:Option Obj} (z:Below n w w') (h:w.heap[b]?=x) (E:b<n):w'.heap[b]?=x:=(z.block b E).trans h
theorem fO {w:World} {n:Nat} (h:n=w.heap.size) (cs:List Value) (t:TypeId):∀ (j:Nat) (u:Value),cs[j]?=some u->(w.alloc (Obj.cells cs.toArray t)).cell? ((⟨n,0,none⟩:Addr).add j)=some u:=by
 subst h;exact kJ cs t
structure Out where
 kind:Int
 slot:Int
 gen:Int
 backend:Int
 request:Int
 code:Int
 why:Int
 deriving DecidableEq
def Out.cells (x:Out):List Value:=[.int .i64 x.kind,.int .i64 x.slot,.int .i64 x.gen,.int .i64 x.backend,.int .i64 x.request,.int .i64 x.code,.int .i64 x.why]
def Out.zero:Out:=⟨0,0,0,0,0,0,0⟩
structure Ld where
 backend:Int
 weight:Int
 flows:Int
 deriving DecidableEq
def Ld.cells (x:Ld):List Value:=[.int .i64 x.backend,.int .i64 x.weight,.int .i64 x.flows]
def Ld.zero:Ld:=⟨0,0,0⟩
structure Ev where
 kind:Int
 key:Int
 slot:Int
 gen:Int
 good:Bool
 request:Int
 backend:Int
 weight:Int
 deriving DecidableEq
def Ev.cells (x:Ev):List Value:=[.int .i64 x.kind,.int .i64 x.key,.int .i64 x.slot,.int .i64 x.gen,.bool x.good,.int .i64 x.request,.int .i64 x.backend,.int .i64 x.weight]
def Ev.zero:Ev:=⟨0,0,0,0,false,0,0,0⟩
structure Hd where
 slot:Int
 gen:Int
 deriving DecidableEq
def Hd.cells (x:Hd):List Value:=[.int .i64 x.slot,.int .i64 x.gen]
def Hd.zero:Hd:=⟨0,0⟩
structure Sl where
 gen:Int
 used:Bool
 key:Int
 backend:Int
 deriving DecidableEq
def Sl.cells (x:Sl):List Value:=[.int .i64 x.gen,.bool x.used,.int .i64 x.key,.int .i64 x.backend]
def Sl.zero:Sl:=⟨0,false,0,0⟩
structure Tm where
 at_:Int
 id:Int
 deriving DecidableEq
def Tm.cells (x:Tm):List Value:=[.int .i64 x.at_,.int .i64 x.id]
def Tm.zero:Tm:=⟨0,0⟩
structure Sp where
 hash:Int
 backend:Int
 deriving DecidableEq
def Sp.cells (x:Sp):List Value:=[.int .i64 x.hash,.int .i64 x.backend]
def Sp.zero:Sp:=⟨0,0⟩
structure Lf where
 backend:Int
 state:Int
 weight:Int
 since:Int
 until_:Int
 request:Int
 deriving DecidableEq
def Lf.cells (x:Lf):List Value:=[.int .i64 x.backend,.int .i64 x.state,.int .i64 x.weight,.int .i64 x.since,.int .i64 x.until_,.int .i64 x.request]
def Lf.zero:Lf:=⟨0,0,0,0,0,0⟩
structure Rq where
 id:Int
 kind:Int
 backend:Int
 weight:Int
 answer:Int
 deriving DecidableEq
def Rq.cells (x:Rq):List Value:=[.int .i64 x.id,.int .i64 x.kind,.int .i64 x.backend,.int .i64 x.weight,.int .i64 x.answer]
def Rq.zero:Rq:=⟨0,0,0,0,0⟩
structure Fl where
 slot:Int
 gen:Int
 key:Int
 backend:Int
 serving:Bool
 retries:Int
 due:Int
 deriving DecidableEq
def Fl.cells (x:Fl):List Value:=[.int .i64 x.slot,.int .i64 x.gen,.int .i64 x.key,.int .i64 x.backend,.bool x.serving,.int .i64 x.retries,.int .i64 x.due]
def Fl.zero:Fl:=⟨0,0,0,0,false,0,0⟩
theorem vn {α:Type} {f:α->List Value} {ok:α->Prop} {z:List (Option IntKind)} (J:∀ cs,dI z cs->∃ x,cs=f x/\ok x):∀ (L:List (List Value)),(∀ c∈L,dI z c)->∃ X:List α,L=X.map f/\∀ x∈X,ok x:=by
 intro L
 induction L with
 | nil=>exact fun _=>⟨[],rfl,by simp⟩
 | cons c L ih=>
  intro h;obtain ⟨X,rfl,E⟩:=ih (fun d I=>h d (Ly _ I));obtain ⟨x,rfl,K⟩:=J c (h c Lw);exact ⟨x :: X,rfl,by simpa using ⟨K,E⟩⟩
theorem CG {α:Type} {f:α->List Value} {ok:α->Prop} {h:List (Option IntKind)} {z:Nat} {w:World} {v:Value} {L:List (List Value)} (Z:0<h.length) (Y:∀ cs,dI h cs->∃ x,cs=f x/\ok x) (E:vP w h z v L) :
  ∃ X:List α,aK w h.length v (X.map f)/\(∀ x∈X,ok x)/\X.length*z<=140737488351232:=by
 have J:=E
 obtain ⟨_,_,_,_,_,_,_,K,_⟩:=J
 obtain ⟨X,rfl,U⟩:=vn Y L K
 have I:=qa E Z
 exact ⟨X,I.1,U,by simpa using I.2⟩
theorem aO {α:Type} {f:α->List Value} {w:World} {sz:Nat} {v:Value} {X:List α} (d:α) (J:aK w sz v (X.map f)) :
  ∃ (a:Option Addr) (h:Nat),v=.slice a X.length h/\X.length<=h/\h<=maxLen/\(a=none->h=0)/\
   (X≠[]->∃ b z,a=some ⟨b,z,none⟩/\b<w.heap.size/\∀ i j,i<X.length->j<sz->w.cell? ⟨b,z+i*sz+j,none⟩=(f (X.getD i d))[j]?):=by
 obtain ⟨a,h,rfl,E,K,U,Y⟩:=J
 simp only [Lh] at E ⊢
 refine ⟨a,h,rfl,E,K,U,fun a0=>?_⟩
 obtain ⟨b,z,rfl,Z,h6⟩:=Y (by simpa using a0)
 refine ⟨b,z,rfl,Z,fun i j I hj=>?_⟩
 rw [h6 i j (by simpa using I) hj]
 congr 1
 simp [List.getD,I]
end
section
open Go.ChangeShapes Go.WideShapes Go.ChangeAt Go.RowKit
section
variable {H:Type} {enc:TypeId×Value->H} {W:World} {base:Nat} {v:Value} {d:DataW H} {p:List MemPlace}
end
end
section
def nY (a b:Tm):Bool:=decide (a.at_<b.at_) || (decide (a.at_=b.at_) && decide (a.id<b.id))
theorem uB {a b:Tm}:nY a b=true↔a.at_<b.at_\/(a.at_=b.at_/\a.id<b.id):=by simp [nY]
theorem uz {a b:Tm}:nY a b=false↔¬ (a.at_<b.at_\/(a.at_=b.at_/\a.id<b.id)):=by rw [<- uB];simp
theorem mg (a:Tm):nY a a=false:=by rw [uz];omega
theorem tmA_eq {a b:Tm} (h1:nY a b=false) (h2:nY b a=false):a=b:=by
 rw [uz] at h1 h2;exact Q126
def i7 (a b:Tm):Bool:=!nY b a
theorem jj {a b:Tm}:i7 a b=true↔¬ (b.at_<a.at_\/(b.at_=a.at_/\b.id<a.id)):=by unfold i7;rw [Bool.not_eq_true',uz]
theorem qI (a b c:Tm) (h:i7 a b=true) (z:i7 b c=true):i7 a c=true:=by rw [jj] at *;omega
theorem zg (a b:Tm):(i7 a b || i7 b a)=true:=by
 have:i7 a b=true\/i7 b a=true:=by rw [jj,jj];omega
 simpa using this
theorem Ci {a b:Tm} (h:nY a b=true):i7 a b=true:=by rw [jj];rw [uB] at h;omega
def j4 (X:List Tm):Prop:=X.Pairwise fun a b=>i7 a b=true
def iL (X:List Tm):List Tm:=X.mergeSort i7
theorem jl (X:List Tm):j4 (iL X):=List.pairwise_mergeSort qI zg X
theorem dp (X:List Tm):(iL X).Perm X:=List.mergeSort_perm X i7
theorem EX:∀ {X Y:List Tm},j4 X->j4 Y->X.Perm Y->X=Y:=by
 intro X
 induction X with
 | nil=>intro Y _ _ h;exact (List.nil_perm.1 h).symm
 | cons a X ih=>
  intro Y hx hy h
  cases Y with
  | nil=>exact absurd h.length_eq (by simp)
  | cons b Y=>
   have U:=List.pairwise_cons.1 hx;have Z:=List.pairwise_cons.1 hy
   have z:a=b:=by
    have E:a∈b :: Y:=h.mem_iff.1 Lw;have I:b∈a :: X:=h.mem_iff.2 Lw;rcases List.mem_cons.1 E with z|E
    ·exact z
    rcases List.mem_cons.1 I with z|I
    ·exact z.symm
    have J:=Z.1 a E;have K:=U.1 b I;exact tmA_eq (by unfold i7 at J;simpa using J) (by unfold i7 at K;simpa using K)
   subst z;rw [ih U.2 Z.2 (List.Perm.cons_inv h)]
theorem qN {X h:List Tm} (z:j4 h) (E:h.Perm X):h=iL X:=EX z (jl X) (E.trans (dp X).symm)
theorem mi {X Y:List Tm} (h:X.Perm Y):iL X=iL Y:=qN (jl X) ((dp X).trans h)
theorem iq {X:List Tm} (h:j4 X):iL X=X:=(qN h (List.Perm.refl X)).symm
def bK (a now:Nat):Nat:=if a / 8=now / 8 then a % 8 else if a / 64=now / 64 then 8+a / 8 % 8 else if a / 512=now / 512 then 16+a / 64 % 8 else 24
theorem fE (a now:Nat):bK a now<25:=by unfold bK;split;omega;split;omega;split<;>omega
def dN (t:Tm) (now:Int):Prop:=now<t.at_/\t.at_<=now+500/\t.at_<=1099511627776/\0<=t.id/\t.id<200
instance (t:Tm) (now:Int):Decidable (dN t now):=by unfold dN;infer_instance
def gh (t:Tm) (now:Int):Nat:=bK t.at_.toNat now.toNat
def gR (L:List Tm):List Int:=L.map Tm.id
def KE (now:Int) (i:Nat) (L:List Tm):Prop:=(∀ t∈L,dN t now/\gh t now=i)/\j4 L
def WhMay (now:Int) (LL:List (List Tm)):Prop:=0<=now/\now<=1099511627776/\LL.length=25/\(∀ i,i<25->KE now i (LL.getD i []))/\(gR LL.flatten).Nodup
def bN (now:Int) (L:List Tm):List (List Tm):=(List.range 25).map fun i=>iL (L.filter fun t=>gh t now == i)
theorem dd (now:Int) (L:List Tm):(bN now L).length=25:=by simp [bN]
theorem dU (now:Int) (L:List Tm) {i:Nat} (h:i<25):(bN now L).getD i []=iL (L.filter fun t=>gh t now == i):=by simp [bN,List.getD,h]
theorem rS {α:Type} (p:α->Bool):∀ LL:List (List α),LL.flatten.filter p=(LL.map (·.filter p)).flatten:=by
 intro LL
 induction LL with
 | nil=>rfl
 | cons L LL ih=>simp [List.filter_append,ih]
theorem ym {α:Type} (L:List α):∀ (LL:List (List α)) (i:Nat),i<LL.length->LL.getD i []=L->(∀ j,j<LL.length->j≠i->LL.getD j []=[])->LL.flatten=L:=by
 intro LL
 induction LL with
 | nil=>intro i z;simp at z
 | cons M LL ih=>
  intro i z E I
  cases i with
  | zero=>
   simp at E;subst E
   have:LL.flatten=[]:=by
    rw [List.flatten_eq_nil_iff];intro U K;obtain ⟨j,h,rfl⟩:=List.mem_iff_getElem.1 K;have:=I (j+1) (by simp;exact h) (by omega);simpa [List.getD,h] using this
   simp [this]
  | succ i=>
   have J:=I 0 (by simp) (by omega);simp at J;subst J;rw [List.flatten_cons,List.nil_append];exact ih i (by simpa using z) (by simpa using E) (fun j h Y=>by have:=I (j+1) (by simpa using h) (by omega);simpa using this)
theorem kV {now:Int} {LL:List (List Tm)} (z:LL.length=25) (J:∀ i,i<25->∀ t∈LL.getD i [],gh t now=i) {i:Nat} (K:i<25):LL.flatten.filter (fun t=>gh t now == i)=LL.getD i []:=by
 rw [rS];refine ym _ _ i (by rw [Lh];omega) ?_ (fun I h U=>?_)
 ·have:(LL.map (·.filter fun t=>gh t now == i)).getD i []=(LL.getD i []).filter fun t=>gh t now == i:=by
   simp [List.getD,z,K]
  rw [this];refine List.filter_eq_self.2 fun t E=>by simpa using J i K t E
 ·rw [Lh,z] at h
  have:(LL.map (·.filter fun t=>gh t now == i)).getD I []=(LL.getD I []).filter fun t=>gh t now == i:=by
   simp [List.getD,z,h]
  rw [this];refine List.filter_eq_nil_iff.2 fun t E=>?_;have:=J I h t E;simp;omega
theorem js {LL MM:List (List Tm)} (I:LL.length=25) (J:MM.length=25) (h:∀ i,i<25->LL.getD i []=MM.getD i []):LL=MM:=by
 apply List.ext_getElem (by omega);intro i z E;have:=h i (by omega);simpa [List.getD,z,E] using this
theorem E8 {now:Int} {LL:List (List Tm)} (I:WhMay now LL):LL=bN now LL.flatten:=by
 obtain ⟨_,_,E,z,_⟩:=I;refine js E (dd _ _) fun U h=>?_;rw [dU _ _ h,kV E (fun Y J Z K=>((z Y J).1 Z K).2) h];exact (iq (z U h).2).symm
theorem CJ {α:Type} [DecidableEq α]:∀ {L M:List α},L.Nodup->(∀ x∈L,x∈M)->L.length<=M.length:=by
 intro L
 induction L with
 | nil=>intro M _ _;simp
 | cons x L ih=>
  intro M J z;have E:=z x Lw;have h:=List.nodup_cons.1 J;have U:=ih (M:=M.erase x) h.2 (fun K I=>(List.mem_erase_of_ne (by rintro rfl;exact h.1 I)).2 (z K (Ly _ I)));have Y:=List.length_erase_of_mem E;have Z:0<M.length:=List.length_pos_iff.2 (by rintro rfl;cases E);simp only [List.length_cons];omega
theorem Ji {L:List Tm} {now:Int} (J:∀ t∈L,dN t now) (h:(gR L).Nodup):L.length<=200:=by
 have K:(gR L).length=L.length:=by simp [gR]
 rw [<- K]
 have Y:∀ I∈gR L,I∈(List.range 200).map (fun z:Nat=>(z:Int)):=by
  intro I E;simp only [gR,LH] at E;obtain ⟨t,Z,rfl⟩:=E;obtain ⟨_,_,_,U,h5⟩:=J t Z;obtain ⟨z,h⟩:=Lr U;rw [h];exact LH.2 ⟨z,by simp;omega,rfl⟩
 have:=CJ h Y;simpa using this
theorem iT {LL:List (List Tm)} {t:Tm}:t∈LL.flatten↔∃ i,i<LL.length/\t∈LL.getD i []:=by
 rw [List.mem_flatten];constructor
 ·rintro ⟨I,E,z⟩;obtain ⟨i,h,rfl⟩:=List.mem_iff_getElem.1 E;exact ⟨i,h,by simpa [List.getD,h] using z⟩
 ·rintro ⟨i,h,z⟩;exact ⟨LL[i],Lp _,by simpa [List.getD,h] using z⟩
theorem WhMay.tm {now:Int} {LL:List (List Tm)} (h:WhMay now LL):∀ t∈LL.flatten,dN t now:=by
 intro t E;obtain ⟨I,J,z⟩:=iT.1 E;exact ((h.2.2.2.1 I (by have:=h.2.2.1;omega)).1 t z).1
theorem WhMay.tot {now:Int} {LL:List (List Tm)} (h:WhMay now LL):LL.flatten.length<=200:=Ji h.tm h.2.2.2.2
theorem qF {now:Int} {L:List Tm} (Z:0<=now) (h1:now<=1099511627776) (Y:∀ t∈L,dN t now) (hn:(gR L).Nodup):WhMay now (bN now L)/\(bN now L).flatten.Perm L:=by
 have K:(bN now L).flatten.Perm L:=by
  have a0:∀ h,((List.range h).map fun U=>iL (L.filter fun t=>gh t now == U)).flatten.Perm (L.filter fun t=>decide (gh t now<h)):=by
   intro h
   induction h with
   | zero=>simp
   | succ h ih=>
    rw [List.range_succ,LG,Lv];simp only [List.map_cons,List.map_nil,List.flatten_cons,List.flatten_nil,List.append_nil];refine (ih.append (dp _)).trans ?_
    have:∀ z:List Tm,(z.filter (fun t=>decide (gh t now<h))++z.filter (fun t=>gh t now == h)).Perm (z.filter fun t=>decide (gh t now<h+1)):=by
     intro z
     induction z with
     | nil=>simp
     | cons t z ihM=>
      have I:decide (gh t now<h+1)=(decide (gh t now<h) || gh t now == h):=by
       rw [Bool.eq_iff_iff];simp;omega
      cases h2:decide (gh t now<h) with
      | true=>
       have E:(gh t now == h)=false:=by simp at h2 ⊢;omega
       simp only [List.filter_cons,I,h2,E,Bool.true_or,if_true,Bool.false_eq_true,if_false,List.cons_append];exact List.Perm.cons t ihM
      | false=>
       cases E:(gh t now == h) with
       | true=>
        simp only [List.filter_cons,I,h2,E,Bool.or_true,if_true,Bool.false_eq_true,if_false];exact List.perm_middle.trans (List.Perm.cons t ihM)
       | false=>
        simp only [List.filter_cons,I,h2,E,Bool.or_false,Bool.false_eq_true,if_false];exact ihM
    exact this L
  refine (a0 25).trans ?_;rw [List.filter_eq_self.2];intro t _;have:=fE t.at_.toNat now.toNat;unfold gh;simpa using this
 refine ⟨⟨Z,h1,dd _ _,fun U hi=>?_,?_⟩,K⟩
 ·rw [dU _ _ hi];refine ⟨fun t ht=>?_,jl _⟩;have J:=(dp _).mem_iff.1 ht;rw [List.mem_filter] at J;exact ⟨Y t J.1,by simpa using J.2⟩
 ·exact (K.map Tm.id).nodup_iff.2 hn
theorem fN {now:Int} {L M:List Tm} (h:L.Perm M):bN now L=bN now M:=by
 unfold bN;refine List.map_congr_left fun i _=>mi (h.filter _)
end
section
open Go.RowKit
theorem bB {w:World} {b:Nat} {arr arr':Array Value} {T:TypeId} {fr:Nat×Nat} (h:w.heap[b]?=some (.cells arr T fr)):(w.setRow b arr').heap[b]?=some (.cells arr' T fr):=by
 have z:=lt_of_block h;have E:w.heap[b]=.cells arr T fr:=by simpa [Array.getElem?_eq_getElem z] using h
 show (w.heap.modify b _)[b]?=_
 rw [Array.getElem?_eq_getElem (by simpa using z),Array.getElem_modify_self,E]
theorem aV {w:World} {b B:Nat} {a:World} {arr:Array Value} (h:Below B a w) (E:B<=b):Below B a (w.setRow b arr):=
 h.trans ⟨rfl,rfl,rfl,by simp [World.setRow],fun z I=>by
  show (w.heap.modify b _)[z]?=_
  rw [Array.getElem?_modify,if_neg (by omega)]⟩
theorem mb {B:Nat} {w:World} {sz:Nat} {v:Value} {L:List (List Value)} (J:aN B w sz v L) {b:Nat} (hb:b<B) (arr:Array Value):aN B (w.setRow b arr) sz v L:=by
 obtain ⟨⟨E,I,rfl,K,U,Y,Z⟩,z⟩:=J;refine ⟨⟨E,I,rfl,K,U,Y,fun a0=>?_⟩,z⟩;obtain ⟨h,a1,rfl,h6,h7⟩:=Z a0;have h8:=z _ _ _ rfl;simp only at h8;refine ⟨h,a1,rfl,by simpa [World.setRow] using h6,fun i j hi hj=>?_⟩;rw [<- h7 i j hi hj];exact cell_setRow_other w b arr _ (by show h≠b;omega)
theorem bD {w:World} {b g:Nat} {x:Option Obj} {arr:Array Value} (h:w.heap[b]?=x) (z:b≠g):(w.setRow g arr).heap[b]?=x:=(setRow_other w g b arr z).trans h
theorem bG {w:World} {b g o:Nat} {arr:Array Value} {v:Value} (h:w.cell? ⟨b,o,none⟩=some v) (z:b≠g):(w.setRow g arr).cell? ⟨b,o,none⟩=some v:=
 (Lg (w:=w) (w':=w.setRow g arr) (a:=⟨b,o,none⟩) (setRow_other w g b arr z)).trans h
theorem bQ {P:Program} {J:Array Oper} {rest:List Oper} {o:Oper} {a:Act} {w:World} {Q:Exit->Act->World->Prop} (Z:o.guard=none) (E:TypeId) (x y:Operand) (ho:o.op=.store E x y)
  (g:Nat) (cells:Array Value) (hx:a.eval x=.pointer (some ⟨g,0,none⟩)) (hy:a.eval y=.agg cells)
  (t:TypeId) (z:Array Value) (I:w.heap[g]?=some (.cells z t (0,0))) (hi:(P.info? E).map (·.size)=some cells.size)
  (hold:z.size=cells.size) (U:cells.all (·.oneCell')=true)
  (K:∀ h:World,h.heap[g]?=some (.cells cells t (0,0))->(∀ b,b≠g->h.heap[b]?=w.heap[b]?)->h.heap.size=w.heap.size->Below g w h->wpList P J Q rest (a.put o.dst undef) h):wpList P J Q (o :: rest) a w:=
 LP Z E x y ho g cells hx hy t z I hi hold U (K _ (bB I) (fun b Y=>setRow_other w g b cells Y) (by simp [World.setRow]) (aV (KM g w) (KY g)))
def aU {α:Type} (p:α->Bool) (X:List α):Int:=match X.findIdx? p with|some i=>(i:Int)|none=>-1
theorem nt {α:Type} {p:α->Bool} {X:List α} {k:Nat} {d o:α} (z:k<X.length) (J:o=X.getD k d) (K:p o=false) (I:∀ x∈X.take k,p x=false):∀ x∈X.take (k+1),p x=false:=by
 intro x E;rw [Li z] at E;rcases List.mem_append.1 E with h|h
 ·exact I x h
 ·simp at h;rw [h,<- K,J];simp [List.getD,z]
theorem lD {α:Type} {p:α->Bool} {X:List α} {k:Nat} {d o:α} (h:k<X.length) (I:o=X.getD k d) (J:p o=true) (E:∀ x∈X.take k,p x=false):aU p X=k:=by
 have z:X.findIdx? p=some k:=by
  rw [List.findIdx?_eq_some_iff_getElem];refine ⟨h,?_,fun K U=>?_⟩
  ·rw [<- J,I];simp [List.getD,h]
  ·rw [E _ (List.mem_take_iff_getElem.2 ⟨K,by omega,rfl⟩)];simp
 unfold aU;rw [z]
theorem jN {α:Type} {p:α->Bool} {X:List α} {k:Nat} (E:X.length=k) (h:∀ x∈X.take k,p x=false):aU p X=-1:=by
 rw [Lo (by omega)] at h;have z:X.findIdx? p=none:=List.findIdx?_eq_none_iff.2 (by simpa using h);unfold aU;rw [z]
theorem iE {α:Type} (p:α->Bool) (X:List α):(X.any p=true↔0<=aU p X)/\(X.any p=false↔aU p X<0):=by
 unfold aU
 cases h:X.findIdx? p with
 | none=>
  have:=List.findIdx?_eq_none_iff.1 h
  have z:X.any p=false:=by rw [List.any_eq_false];intro K J;rw [this K J];simp
  rw [z];simp
 | some i=>
  obtain ⟨U,E,_⟩:=List.findIdx?_eq_some_iff_getElem.1 h;have I:X.any p=true:=List.any_eq_true.2 ⟨X[i],Lp _,E⟩;rw [I];simp
theorem bM {α:Type} (p:α->Bool) (X:List α) (d:α):(aU p X=-1/\∀ x∈X,p x=false)\/∃ i:Nat,i<X.length/\aU p X=i/\p (X.getD i d)=true/\∀ x∈X.take i,p x=false:=by
 unfold aU
 cases h:X.findIdx? p with
 | none=>exact Or.inl ⟨rfl,by simpa using List.findIdx?_eq_none_iff.1 h⟩
 | some i=>
  obtain ⟨z,I,E⟩:=List.findIdx?_eq_some_iff_getElem.1 h;refine Or.inr ⟨i,z,rfl,by simpa [List.getD,z] using I,fun x J=>?_⟩;obtain ⟨K,U,rfl⟩:=List.mem_take_iff_getElem.1 J;have:=E K (by omega);simpa using this
def gP (w:World) (E:TypeId) (sz n:Nat) (cs:List Value) (e:Ending) (w':World):Prop:=∃ v,e=.returned v/\w'.ownsRow w.heap.size E sz v n cs/\Below w.heap.size w w'
theorem gI (w:World) (E:TypeId) (sz:Nat):(w.alloc (.cells #[] E)).ownsRow w.heap.size E sz (.slice (some ⟨w.heap.size,0,none⟩) 0 0) 0 []:=
 ⟨by simp,.inr ⟨w.heap.size,0,#[],rfl,KY _,aB _ rfl,KY _,by unfold maxLen;omega,by simp,by simp⟩⟩
def qW {α:Type} (F:List α) (n:Nat) (cs:List α):List α:=F.take n++cs++F.drop (n+cs.length)
theorem Ey {α:Type} (F:List α) (n:Nat):qW F n []=F:=by simp [qW]
theorem Ex {α:Type} (F:List α) (n j:Nat) (cs:List α) (u:α) (E:j=n+cs.length) (h:j<F.length):(qW F n cs).set j u=qW F n (cs++[u]):=by
 subst E;unfold qW
 have z:(F.take n).length=n:=by rw [Ls];omega
 rw [List.append_assoc,List.set_append_right _ _ (by omega),List.set_append_right _ _ (by omega),z,Nat.add_sub_cancel_left,Nat.sub_self];rw [List.drop_eq_getElem_cons h];simp [List.set];rw [Nat.add_assoc]
theorem Cr {sz:Nat}:∀ {L:List (List Value)},(∀ c∈L,c.length=sz)->∀ {i:Nat} {c:List Value},c.length=sz->i<L.length->qW L.flatten (i*sz) c=(L.set i c).flatten:=by
 intro L
 induction L with
 | nil=>intro _ i c _ z;simp at z
 | cons d L ih=>
  intro E i c I z;have J:=E d Lw
  cases i with
  | zero=>simp [qW,I,<- J]
  | succ i=>
   have:=ih (fun h K=>E h (Ly _ K)) I (by simpa using z:i<L.length);simp only [List.flatten_cons,List.set_cons_succ,<- this];unfold qW
   have h:(i+1)*sz=d.length+i*sz:=by rw [Nat.add_mul,J];omega
   rw [h,List.take_append,Lo (by omega),Nat.add_sub_cancel_left,Nat.add_assoc,List.drop_append,List.drop_of_length_le (by omega),Nat.add_sub_cancel_left];simp
theorem EU {w:World} {base base':Nat} {e:TypeId} {size:Nat} {v:Value} {n:Nat} {xs:List Value} (J:w.ownsRow base e size v n xs) (hb:base'<=base):w.ownsRow base' e size v n xs:=by
 obtain ⟨h,K|⟨I,z,E,U,Y,Z⟩⟩:=J
 ·exact ⟨h,.inl K⟩
 ·exact ⟨h,.inr ⟨I,z,E,U,Lz hb Y,Z⟩⟩
def qm (w:World) (g:Nat):Nat->List Value->World
 | _,[]=>w
 | o,c :: cs=>qm (w.setCell ⟨g,o,none⟩ c) g (o+1) cs
theorem uU {base e sz g n E:Nat}:∀ (cs h:List Value) (o:Nat) (w:World) (xs:List Value),w.ownsRow base e sz (.slice (some ⟨g,0,none⟩) n E) n (qW xs o h)->o+h.length+cs.length<=xs.length->
  (qm w g (o+h.length) cs).ownsRow base e sz (.slice (some ⟨g,0,none⟩) n E) n (qW xs o (h++cs)):=by
 intro cs
 induction cs with
 | nil=>intro h o w xs z _;simpa [qm] using z
 | cons c cs ih=>
  intro h o w xs z K;simp only [List.length_cons] at K;have I:=(z.stored (o+h.length) c).1;rw [Ex _ _ _ _ _ rfl (by omega)] at I;have J:=ih (h++[c]) o _ xs I (by simp;omega);simp only [List.append_assoc,List.singleton_append,Ll,List.length_cons,List.length_nil] at J;exact J
theorem xC {base e sz g n h:Nat} {w:World} {xs:List Value} (cs:List Value) (o:Nat) (z:w.ownsRow base e sz (.slice (some ⟨g,0,none⟩) n h) n xs) (E:o+cs.length<=xs.length) :
  (qm w g o cs).ownsRow base e sz (.slice (some ⟨g,0,none⟩) n h) n (qW xs o cs):=by
 have:=uU (g:=g) cs [] o w xs (by rw [Ey];exact z) (by simpa using E)
 simpa using this
end
section
open Go.ChangeShapes Go.WideShapes Go.ChangeAt Go.RowKit
section
variable {H:Type} {enc:TypeId×Value->H} {W:World} {base:Nat} {v:Value} {d:DataW H} {p:List MemPlace}
end
end
section
open Go.RowKit Go.ChangeMaps Go.Maps
def tr:Value->Option (DataW Unit×List MemPlace):=fun _=>some (.nil,[])
def kI (i:Int):Lit:=.int .i64 i
theorem IB (i j:Int):(kI i).sameKey (kI j)=decide (i=j):=by simp [kI,Lit.sameKey]
def pZ (w:World) (b:Nat) (gU:List Int):Prop:=∃ h:List (Lit×DataW Unit),w.ownsMap prog 3 tr b gU.length (.map h)/\(h.map (·.1)).Nodup/\(∀ q,q∈h.map (·.1)↔∃ i∈gU,q=kI i)/\h.length<=gU.length/\(h.length=gU.length↔gU.Nodup)
theorem px (x:Lit×DataW Unit):∀ l,(DataW.insert x l).Perm (x :: l)
 | []=>.refl _
 | y :: r=>by
  unfold DataW.insert
  split
  ·exact .refl _
  ·exact (List.Perm.cons y (px x r)).trans (List.Perm.swap _ _ _)
theorem Bo:Keyed prog 3:=int_keyed underlying3
theorem ui (w:World):pZ (w.alloc (.map #[] 0)) w.heap.size []:=⟨[],World.ownsMap_made w _ _ _,by simp,by simp,by simp,by simp⟩
theorem oS {w w':World} {b:Nat} {gU:List Int} (I:pZ w b gU) (Y:w'.heap[b]?=w.heap[b]?):pZ w' b gU:=by
 obtain ⟨E,⟨h,z,J,K⟩,U⟩:=I;exact ⟨E,⟨h,z,Y.trans J,K⟩,U⟩
theorem yR {w:World} {b:Nat} {gU:List Int} (U:pZ w b gU):∃ (n:Nat) (arr:Array MapEntry) (h:Nat),w.heap[b]?=some (.map arr h)/\arr.size=n/\n<=gU.length/\(n=gU.length↔gU.Nodup):=by
 obtain ⟨K,⟨arr,h,Y,_,_,z⟩,Z,h4,E,I⟩:=U;simp only [DataW.map.injEq] at z
 have J:K.length=arr.size:=by rw [z,length_sorted];simp
 rw [J] at E I;exact ⟨_,arr,h,Y,rfl,E,I⟩
theorem Ho {es:List (Lit×DataW Unit)} {gU:List Int} (h3:(es.map (·.1)).Nodup) (K:∀ q,q∈es.map (·.1)↔∃ i∈gU,q=kI i) (h5:es.length<=gU.length) (h6:es.length=gU.length↔gU.Nodup) (i:Int) :
  ((putKey (kI i) (.nil:DataW Unit) es).map (·.1)).Nodup/\(∀ q,q∈(putKey (kI i) (.nil:DataW Unit) es).map (·.1)↔∃ j∈gU++[i],q=kI j)/\(putKey (kI i) (.nil:DataW Unit) es).length<=(gU++[i]).length/\((putKey (kI i) (.nil:DataW Unit) es).length=(gU++[i]).length↔(gU++[i]).Nodup):=by
 have I:=px (kI i,.nil) (es.filter (notKey (kI i)))
 have a3:=I.map (·.1)
 have U:∀ p∈es,(notKey (kI i) p=true↔p.1≠kI i):=by
  intro p I;obtain ⟨j,_,E⟩:=(K p.1).1 (List.mem_map_of_mem I);unfold notKey;rw [E,IB];simp [kI]
 have hm:∀ q,q∈(es.filter (notKey (kI i))).map (·.1)↔q∈es.map (·.1)/\q≠kI i:=by
  intro q;simp only [LH,List.mem_filter];constructor
  ·rintro ⟨p,⟨z,a1⟩,rfl⟩;exact ⟨⟨p,z,rfl⟩,(U p z).1 a1⟩
  ·rintro ⟨⟨p,z,rfl⟩,a6⟩;exact ⟨p,⟨z,(U p z).2 a6⟩,rfl⟩
 have a2:(putKey (kI i) (.nil:DataW Unit) es).length=(es.filter (notKey (kI i))).length+1:=by
  unfold putKey;rw [I.length_eq];simp
 have a7:(es.filter (notKey (kI i))).length<=es.length:=List.length_filter_le _ _
 refine ⟨?_,?_,?_,?_⟩
 ·unfold putKey;rw [a3.nodup_iff];simp only [List.map_cons,List.nodup_cons];refine ⟨fun h=>((hm _).1 h).2 rfl,h3.sublist (List.Sublist.map _ List.filter_sublist)⟩
 ·intro q;unfold putKey;rw [a3.mem_iff];simp only [List.map_cons,List.mem_cons,hm,K,List.mem_append,List.not_mem_nil,or_false];constructor
  ·rintro (h|⟨⟨j,E,rfl⟩,_⟩)
   ·exact ⟨i,Or.inr rfl,h⟩
   ·exact ⟨j,Or.inl E,rfl⟩
  ·rintro ⟨j,E|rfl,rfl⟩
   ·by_cases J:kI j=kI i
    ·exact Or.inl J
    ·exact Or.inr ⟨⟨j,E,rfl⟩,J⟩
   ·exact Or.inl rfl
 ·rw [a2];simp;omega
 ·rw [a2];simp only [Ll,List.length_cons,List.length_nil]
  have a5:(gU++[i]).Nodup↔gU.Nodup/\i∉gU:=by
   rw [List.nodup_append];constructor
   ·rintro ⟨Y,_,Z⟩;exact ⟨Y,fun h=>Z i h i (by simp) rfl⟩
   ·rintro ⟨Y,Z⟩;refine ⟨Y,by simp,fun x hx y hy=>?_⟩;simp at hy;subst hy;exact fun J=>Z (J ▸ hx)
  rw [a5];by_cases hin:i∈gU
  ·have a8:(es.filter (notKey (kI i))).length<es.length:=by
    obtain ⟨p,z,a1⟩:=LH.1 ((K (kI i)).2 ⟨i,hin,rfl⟩);rcases Nat.lt_or_ge (es.filter (notKey (kI i))).length es.length with h|h
    ·exact h
    ·exfalso;have:=List.filter_sublist.eq_of_length_le (l₁:=es.filter (notKey (kI i))) (l₂:=es) h
     have h9:p∈es.filter (notKey (kI i)):=by rw [this];exact z
     exact (U p z).1 (List.mem_filter.1 h9).2 a1
   constructor
   ·intro h;omega
   ·intro h;exact absurd hin h.2
  ·have a4:es.filter (notKey (kI i))=es:=by
    rw [List.filter_eq_self];intro p I;refine (U p I).2 fun J=>hin ?_;obtain ⟨j,E,a0⟩:=(K p.1).1 (List.mem_map_of_mem I);rw [J] at a0;simp only [kI,Lit.int.injEq,true_and] at a0;rw [a0];exact E
   rw [a4];constructor
   ·intro h;exact ⟨h6.1 (by omega),hin⟩
   ·intro h;have:=h6.2 h.1;omega
theorem yQ {w':World} {b:Nat} {gU:List Int} {i:Int} {h:List (Lit×DataW Unit)} (U:(h.map (·.1)).Nodup) (Y:∀ q,q∈h.map (·.1)↔∃ i∈gU,q=kI i) (Z:h.length<=gU.length) (h6:h.length=gU.length↔gU.Nodup)
  (z:w'.ownsMap prog 3 tr b (gU.length+1) ((DataW.map h).put (kI i) .nil)):pZ w' b (gU++[i]):=by
 rw [DataW.put_eq] at z
 obtain ⟨E,I,J,K⟩:=Ho U Y Z h6 i
 exact ⟨_,by simpa using z,E,I,J,K⟩
theorem Bi {b:Nat} {h:Array MapEntry} {clock:Nat} {w:World} (z:w.heap[b]?=some (.map h clock)) (E:TypeId):(Builtin.len_ #[228] E #[.map (some b)]).run prog w=.ok (.int .i64 h.size) w:=by
 simp [Builtin.len_,run_underlying underlying228,MapKept.run_getObj_map z,goInt]
theorem kK {w w':World} {b n:Nat} {D:DataW Unit} (I:w.ownsMap prog 3 tr b n D) (K:Below w.heap.size w w'):w'.ownsMap prog 3 tr b n D:=by
 obtain ⟨z,E,h,J⟩:=I;exact ⟨z,E,(K.block _ (lt_of_block h)).trans h,J⟩
theorem tJ {B b:Nat} {w h w2:World} (z:Below B w h) (I:h.grownBy w2 (some b)) (K:B<=h.heap.size) (E:B<=b):Below B w w2:=
 z.grown I K (by intro U J;cases J;exact E)
theorem xJ {b:Nat} {h z:World} (E:h.grownBy z (some b)):h.heap.size<=z.heap.size:=E.size
theorem Fh {b c o:Nat} {v:Value} {h z:World} (J:h.grownBy z (some b)) (I:c≠b) (E:h.cell? ⟨c,o,none⟩=some v):z.cell? ⟨c,o,none⟩=some v:=
 (Lg (w:=h) (w':=z) (a:=⟨c,o,none⟩) (J.block c (bV E) (by simpa using I))).trans E
end
section
open Go.RowKit
theorem IA (w:World) (b o:Nat) (v v':Value):(w.setCell ⟨b,o,none⟩ v).setCell ⟨b,o,none⟩ v'=w.setCell ⟨b,o,none⟩ v':=by
 simp only [World.setCell]
 congr 1
 apply Array.ext_getElem?;intro i;simp only [Array.getElem?_modify];by_cases hi:b=i
 ·simp only [hi,if_true]
  cases w.heap[i]? with
  | none=>rfl
  | some x=>cases x<;>simp
 ·simp only [hi,if_false]
def dV (h b:Nat):Nat:=(h ^^^ b)*16777619 % 4294967296
theorem jL (h b:Nat):dV h b<4294967296:=Nat.mod_lt _ (by decide)
def zL (a b c d:Nat):Nat:=dV (dV (dV (dV 2166136261 a) b) c) d
theorem uD (h b:Nat) (E:h<4294967296) (z:b<4294967296):bits .xor .u32 (h:Int) (b:Int)*16777619 % 4294967296=((dV h b:Nat):Int):=by
 rw [u32_xor_nat h b E z];unfold dV;omega
theorem xi (B a b c d:Nat) (w:World) (Z:a<256) (hb:b<256) (hc:c<256) (hd:d<256) (J:w.cell? ⟨B,0,none⟩=some (.int .u8 a)) (K:w.cell? ⟨B,1,none⟩=some (.int .u8 b)) (U:w.cell? ⟨B,2,none⟩=some (.int .u8 c)) (Y:w.cell? ⟨B,3,none⟩=some (.int .u8 d)) :
  Calls prog 159 #[.slice (some ⟨B,0,none⟩) 4 4] w fun e w'=>e=.returned (.int .i64 (zL a b c d))/\w=w':=by
 have h:bits .xor .u32 2166136261 (a:Int)*16777619 % 4294967296=((dV 2166136261 a:Nat):Int):=uD 2166136261 a (by decide) (by omega)
 have z:=uD (dV 2166136261 a) b (jL _ _) (by omega)
 have E:=uD (dV (dV 2166136261 a) b) c (jL _ _) (by omega)
 have I:=uD (dV (dV (dV 2166136261 a) b) c) d (jL _ _) (by omega)
 go_in
 go_wp2
 refine wp_loop_rounds 5 ?_
 rw [rounds_succ]
 go_wp2
 rw [rounds_succ]
 go_wp2
 rw [rounds_succ]
 go_wp2
 rw [rounds_succ]
 go_wp2
 rw [rounds_succ]
 go_wp2
 go_ret
 exact ⟨rI (by unfold zL;have:=jL (dV (dV (dV 2166136261 a) b) c) d;first|rfl|omega|(simp only [IntKind.wrap_i64];omega)),rfl⟩
end
section
def tj (a b:Sp):Bool:=decide (a.hash<b.hash) || (decide (a.hash=b.hash) && decide (a.backend<b.backend))
theorem qj {a b:Sp}:tj a b=true↔a.hash<b.hash\/(a.hash=b.hash/\a.backend<b.backend):=by simp [tj]
theorem mm {a b:Sp}:tj a b=false↔¬ (a.hash<b.hash\/(a.hash=b.hash/\a.backend<b.backend)):=by rw [<- qj];simp
theorem zo (a:Sp):tj a a=false:=by rw [mm];omega
theorem Ej {a b:Sp} (h1:tj a b=false) (h2:tj b a=false):a=b:=by
 rw [mm] at h1 h2;exact Q126
def jm (a b:Sp):Bool:=!tj b a
theorem kA {a b:Sp}:jm a b=true↔¬ (b.hash<a.hash\/(b.hash=a.hash/\b.backend<a.backend)):=by unfold jm;rw [Bool.not_eq_true',mm]
theorem zm (a b c:Sp) (h:jm a b=true) (z:jm b c=true):jm a c=true:=by rw [kA] at *;omega
theorem zn (a b:Sp):(jm a b || jm b a)=true:=by
 have:jm a b=true\/jm b a=true:=by rw [kA,kA];omega
 simpa using this
def Hs (X:List Sp):Prop:=X.Pairwise fun a b=>jm a b=true
def wQ (X:List Sp):List Sp:=X.mergeSort jm
theorem qi (X:List Sp):Hs (wQ X):=List.pairwise_mergeSort zm zn X
theorem fq (X:List Sp):(wQ X).Perm X:=List.mergeSort_perm X jm
theorem IU:∀ {X Y:List Sp},Hs X->Hs Y->X.Perm Y->X=Y:=by
 intro X
 induction X with
 | nil=>intro Y _ _ h;exact (List.nil_perm.1 h).symm
 | cons a X ih=>
  intro Y hx hy h
  cases Y with
  | nil=>exact absurd h.length_eq (by simp)
  | cons b Y=>
   have U:=List.pairwise_cons.1 hx;have Z:=List.pairwise_cons.1 hy
   have z:a=b:=by
    have E:a∈b :: Y:=h.mem_iff.1 Lw;have I:b∈a :: X:=h.mem_iff.2 Lw;rcases List.mem_cons.1 E with z|E
    ·exact z
    rcases List.mem_cons.1 I with z|I
    ·exact z.symm
    have J:=Z.1 a E;have K:=U.1 b I;exact Ej (by unfold jm at J;simpa using J) (by unfold jm at K;simpa using K)
   subst z;rw [ih U.2 Z.2 (List.Perm.cons_inv h)]
theorem B9 {X h:List Sp} (z:Hs h) (E:h.Perm X):h=wQ X:=IU z (qi X) (E.trans (fq X).symm)
theorem Co {X Y:List Sp} (h:X.Perm Y):wQ X=wQ Y:=B9 (qi X) ((fq X).trans h)
def spH (b i:Nat):Int:=(zL 98 b i 115:Nat)
def zj (b i:Nat):Sp:=⟨spH b i,b⟩
def dh (b n:Nat):List Sp:=(List.range (4*n)).map (zj b)
def dm (ws:List Nat) (k:Nat):List Sp:=((List.range k).map fun b=>dh b (ws.getD b 0)).flatten
def bR (ws:List Nat):List Sp:=wQ (dm ws 12)
theorem dL (ws:List Nat) (k:Nat):dm ws (k+1)=dm ws k++dh k (ws.getD k 0):=by
 unfold dm;rw [List.range_succ,LG,Lv];simp
theorem eN (b n:Nat):(dh b n).length=4*n:=by simp [dh]
theorem tf (ws:List Nat) (h:∀ b,ws.getD b 0<=8):∀ k,(dm ws k).length<=32*k:=by
 intro k
 induction k with
 | zero=>simp [dm]
 | succ k ih=>rw [dL,Ll,eN];have:=h k;omega
def kr (X:List Sp) (b:Nat):Nat:=X.countP fun s=>s.backend == (b:Int)
def gx (X:List Sp):List Nat:=(List.range 12).map fun b=>kr X b / 4
def Rg1 (X:List Sp):Prop:=∀ s∈X,0<=s.backend/\s.backend<=11
def Rg2 (X:List Sp):Prop:=∀ b,b<12->kr X b % 4=0/\kr X b<=32
def RgMay (X:List Sp):Prop:=Rg1 X/\Rg2 X/\X=bR (gx X)
theorem kY (X:List Sp) {b:Nat} (h:b<12):(gx X).getD b 0=kr X b / 4:=by simp [gx,List.getD,h]
theorem Es {X:List Sp} (h:Rg2 X) (b:Nat):(gx X).getD b 0<=8:=by
 by_cases hb:b<12
 ·rw [kY X hb];have:=(h b hb).2;omega
 ·have:(gx X)[b]?=none:=by simp [gx];omega
  simp [List.getD,this]
theorem RgMay.len {X:List Sp} (h:RgMay X):X.length<=384:=by
 have:=tf (gx X) (Es h.2.1) 12
 have e:X.length=(dm (gx X) 12).length:=by
  rw [show X.length=(bR (gx X)).length by rw [<- h.2.2]];exact (fq _).length_eq
 omega
theorem sH (X:List Sp) (b:Nat) {k:Nat} (h:k<X.length):kr (X.take (k+1)) b=kr (X.take k) b+(if (X.getD k Sp.zero).backend=(b:Int) then 1 else 0):=by
 unfold kr;rw [Li h,List.countP_append];have e:X.getD k Sp.zero=X[k]:=by simp [List.getD,h]
 rw [e];by_cases hb:X[k].backend=(b:Int)<;>simp [hb]
theorem rct_le (X:List Sp) (b:Nat):kr X b<=X.length:=List.countP_le_length
theorem yh {α:Type} (X:List α) (d:α) {k:Nat} (h:k<X.length):X.getD k d∈X:=by
 have e:X.getD k d=X[k]:=by simp [List.getD,h]
 rw [e];exact Lp h
def lP (X:List Sp) (k:Nat):List Int:=(List.range 12).map fun b=>(kr (X.take k) b:Int)
def fG (X:List Sp) (k:Nat):List Int:=(List.range 12).map fun b=>if b<k then ((kr X b / 4:Nat):Int) else (kr X b:Int)
theorem gX (X:List Sp) (k:Nat):(lP X k).length=12:=by simp [lP]
theorem dW (X:List Sp) (k:Nat):(fG X k).length=12:=by simp [fG]
theorem rY (X:List Sp) (k:Nat) {m:Nat} (h:m<12):(lP X k)[m]?=some (kr (X.take k) m:Int):=by simp [lP,h]
theorem jr (X:List Sp) (k:Nat) {m:Nat} (h:m<12):(fG X k)[m]?=some (if m<k then ((kr X m / 4:Nat):Int) else (kr X m:Int)):=by simp [fG,h]
theorem cntK_0 (X:List Sp):(lP X 0).map (Value.int .i64)=List.replicate 12 (.int .i64 0):=by simp [lP,kr];rfl
theorem GM (X:List Sp) {k:Nat} (h:X.length=k):lP X k=fG X 0:=by
 unfold lP fG;rw [Lo (by omega)];simp
theorem DC {X:List Sp} {k m:Nat} {s:Sp} (I:s=X.getD k Sp.zero) (z:k<X.length) (E:s.backend=(m:Int)) (J:m<12):lP X (k+1)=(lP X k).set m ((kr (X.take k) m:Int)+1):=by
 apply List.ext_getElem?;intro h;rw [List.getElem?_set];by_cases hj:h<12
 ·rw [rY _ _ hj,sH X h z,<- I,E];by_cases hmj:m=h
  ·subst hmj;rw [if_pos rfl,if_pos rfl,if_pos (by rw [gX];exact hj)]
   rfl
  ·rw [if_neg hmj,rY _ _ hj,if_neg (by omega)]
   rfl
 ·rw [if_neg (by omega),Lu (by rw [gX];omega),Lu (by rw [gX];omega)]
theorem CQ (X:List Sp) {k:Nat} (h:k<12):fG X (k+1)=(fG X k).set k ((kr X k / 4:Nat):Int):=by
 apply List.ext_getElem?;intro j;rw [List.getElem?_set];by_cases hj:j<12
 ·rw [jr _ _ hj];by_cases hmj:k=j
  ·subst hmj;rw [if_pos (by omega),if_pos rfl,if_pos (by rw [dW];exact hj)]
  ·rw [if_neg hmj,jr _ _ hj];by_cases h2:j<k
   ·rw [if_pos h2,if_pos (by omega)]
   ·rw [if_neg h2,if_neg (by omega)]
 ·rw [if_neg (by omega),Lu (by rw [dW];omega),Lu (by rw [dW];omega)]
theorem GL {X:List Sp} {k:Nat} {s:Sp} (E:s=X.getD k Sp.zero) (h:k<X.length) (I:s.backend<0\/11<s.backend):¬ RgMay X:=fun z=>by
 have:=z.1 s (by rw [E];exact yh X _ h);omega
theorem xI {X:List Sp} {k:Nat} (h:k<12) (E:kr X k % 4≠0\/32<kr X k):¬ RgMay X:=fun z=>by
 have:=z.2.1 k h;omega
theorem Et {X:List Sp} {k:Nat} (I:k<X.length) (K:Rg1 (X.take k)) (z:0<=(X.getD k Sp.zero).backend) (E:(X.getD k Sp.zero).backend<=11):Rg1 (X.take (k+1)):=by
 intro U h;rw [Li I,List.mem_append,List.mem_singleton] at h;rcases h with h|rfl
 ·exact K U h
 ·have J:X.getD k Sp.zero=X[k]:=by simp [List.getD,I]
  rw [J] at z E;exact ⟨z,E⟩
theorem wH {X:List Sp} {k:Nat} (h:∀ b,b<k->kr X b % 4=0/\kr X b<=32) (E:k<=12):(dm (gx X) k).length<=32*k:=by
 induction k with
 | zero=>simp [dm]
 | succ k ih=>
  rw [dL,Ll,eN,kY X (by omega)];have:=ih (fun b z=>h b (by omega)) (by omega);have:=h k (by omega);omega
end
section
open Go.RowKit
theorem qQ {b:Nat} {t:TypeId}:∀ (vs:List Value) (o:Nat) (h:Array Value) (w:World),w.heap[b]?=some (.cells h t (0,0))->∃ z,(w.setCells b o vs).heap[b]?=some (.cells z t (0,0))/\z.size=h.size/\∀ k,k<=o->z.toList.take k=h.toList.take k:=by
 intro vs
 induction vs with
 | nil=>exact fun o h w E=>⟨h,E,rfl,fun _ _=>rfl⟩
 | cons v vs ih=>
  intro o h w E;obtain ⟨z,I,J,K⟩:=ih (o+1) _ (w.setCell ⟨b,o,none⟩ v) (aR E v);refine ⟨z,I,by rw [J];simp,fun k U=>?_⟩;rw [K k (by omega),Array.toList_setIfInBounds,List.take_set,List.set_eq_of_length_le (by rw [Ls];omega)]
theorem pa {b:Nat}:∀ (vs:List Value) (o:Nat) (w:World) (k:Nat),k≠b->(w.setCells b o vs).heap[k]?=w.heap[k]?:=by
 intro vs
 induction vs with
 | nil=>exact fun _ _ _ _=>rfl
 | cons v vs ih=>intro o w k h;exact (ih (o+1) _ k h).trans (KV _ _ _ _ h)
theorem lU {b:Nat}:∀ (vs:List Value) (o:Nat) (w:World),(w.setCells b o vs).heap.size=w.heap.size:=by
 intro vs
 induction vs with
 | nil=>exact fun _ _=>rfl
 | cons v vs ih=>intro o w;rw [World.setCells,ih];simp
theorem kB {b B:Nat} {a:World} (z:B<=b):∀ (vs:List Value) (o:Nat) (w:World),Below B a w->Below B a (w.setCells b o vs):=by
 intro vs
 induction vs with
 | nil=>exact fun _ _ h=>h
 | cons v vs ih=>intro o w h;exact ih (o+1) _ (h.setCell (by simpa using z) _)
theorem l8 {w:World} {B sz n h g i:Nat} {t:TypeId} {cs:List Value} (E:w.ownsRow B t sz (.slice (some ⟨g,0,none⟩) n h) n cs) (U:i<=n):w.ownsRow B t sz (.slice (some ⟨g,0,none⟩) i h) i (cs.take (i*sz)):=by
 rcases E.2 with ⟨z,_⟩|⟨g',a0,I,z,J,K,hn,Z,hs,ht⟩
 ·cases z
 ·injection z with e1 _ e3;injection e1 with e1;injection e1 with e1;subst e1;subst e3;have Y:i*sz<=n*sz:=Lt _ U;refine ⟨by rw [Ls,E.1];omega,.inr ⟨g,h,I,rfl,J,K,by omega,Z,hs,?_⟩⟩;rw [<- ht,List.take_take,Nat.min_eq_left Y]
theorem pz {w:World} {B sz n h g i o:Nat} {t:TypeId} {cs:List Value} (K:w.ownsRow B t sz (.slice (some ⟨g,0,none⟩) n h) n cs) (hi:i<=n) (ho:i*sz<=o) (vs:List Value):(w.setCells g o vs).ownsRow B t sz (.slice (some ⟨g,0,none⟩) i h) i (cs.take (i*sz)):=by
 have E:=l8 K hi;rcases E.2 with ⟨z,_⟩|⟨g',a0,I,z,hb,hg,hn,hm,hs,ht⟩
 ·cases z
 ·injection z with e1 _ e3;injection e1 with e1;injection e1 with e1;subst e1;subst e3;obtain ⟨J,U,Y,Z⟩:=qQ vs o I w hg;refine ⟨E.1,.inr ⟨g,h,J,rfl,hb,U,hn,hm,by rw [Y];exact hs,?_⟩⟩;rw [Z _ ho,ht]
theorem jW {P:Program} (w:World) (t e ty:TypeId) (Z:TypeInfo) (h:Value) (g o n c:Nat) (U:P.underlying t=some (.slice e)) (hi:P.info? e=some Z) (hz:Z.zero=some h)
  (hc:∀ j,j<n*h.cells.size->(w.cell? ⟨g,o+j,none⟩).isSome=true) (hf:∀ j,w.frozen? ⟨g,o+j,none⟩=false) (h1:∀ v∈h.cells.toList,v.oneCell'=true) :
  ∃ vs:List Value,(Builtin.clear_ #[t] ty #[.slice (some ⟨g,o,none⟩) n c]).run P w=.ok (.tuple #[]) (w.setCells g o vs):=by
 cases n with
 | zero=>exact ⟨[],by simp [Builtin.clear_,run_underlying U,World.setCells]⟩
 | succ n=>
  have hl:(Builtin.zeroCells h.cells (n+1)).toList.length=(n+1)*h.cells.size:=by simp [Builtin.zeroCells]
  have K:=run_storeCells_cells (P:=P) g o (Builtin.zeroCells h.cells (n+1)).toList 0 w (by intro j E;rw [hl] at E;exact hc j E) (by intro j _;exact hf j) (by
   intro v Y;simp only [Builtin.zeroCells,Array.toList_map,LH,Array.toList_range,List.mem_range] at Y;obtain ⟨k,I,rfl⟩:=Y
   have a0:0<h.cells.size:=by
    rcases Nat.eq_zero_or_pos h.cells.size with z|z
    ·rw [z] at I;simp at I
    ·exact z
   have J:k % h.cells.size<h.cells.size:=Nat.mod_lt _ a0;rw [getElem!_pos h.cells _ J]
   exact h1 _ (Array.getElem_mem_toList J))
  refine ⟨(Builtin.zeroCells h.cells (n+1)).toList,?_⟩;rw [Nat.add_zero] at K;simp [Builtin.clear_,run_underlying U,zeroValue,typeInfo,hi,hz,K]
theorem uV {w:World} {B sz n h g:Nat} {t:TypeId} {cs:List Value} (E:w.ownsRow B t sz (.slice (some ⟨g,0,none⟩) n h) n cs):n<=h/\h<=maxLen:=by
 rcases E.2 with ⟨z,_⟩|⟨Y,K,U,z,_,_,J,I,_⟩
 ·cases z
 ·injection z with _ _ e3;subst e3;exact ⟨J,I⟩
theorem Aj {P:Program} {w:World} (t e Z:TypeId) {J:TypeInfo} (I:Value) (sz g n U i c B:Nat) {cs:List Value} (hu:P.underlying t=some (.slice e)) (hi:P.info? e=some J) (hz:J.zero=some I) (hs:I.cells.size=sz)
  (h1:∀ v∈I.cells.toList,v.oneCell'=true) (z:w.ownsRow B e sz (.slice (some ⟨g,0,none⟩) n U) n cs) (a1:i<=n) :
  ∃ h:World,(Builtin.clear_ #[t] Z #[.slice (some ⟨g,i*sz,none⟩) (n - i) c]).run P w=.ok (.tuple #[]) h/\(∀ b,b≠g->h.heap[b]?=w.heap[b]?)/\h.heap.size=w.heap.size/\Below B w h/\h.ownsRow B e sz (.slice (some ⟨g,0,none⟩) i U) i (cs.take (i*sz)):=by
 have a0:B<=g:=(z.lt _ rfl).1
 obtain ⟨E,a2⟩:=jW (P:=P) w t e Z J I g (i*sz) (n - i) c hu hi hz (by
  intro K hj;rw [hs] at hj
  have Y:i*sz+K<n*sz:=by
   have:(i+(n - i))*sz=n*sz:=by rw [show i+(n - i)=n by omega]
   rw [Nat.add_mul] at this;omega
  rw [z.cellAt _ Y]
  have:i*sz+K<cs.length:=by rw [z.1];exact Y
  simp [this]) (fun K=>z.frozenAt _) h1
 exact ⟨_,a2,fun b hb=>pa E _ w b hb,lU E _ w,kB a0 E _ w (KM _ _),pz z a1 (KY _) E⟩
end
section
theorem rP (ws:List Nat) (b c n:Nat) (h:b<ws.length):(ws.set b n).getD c 0=if b=c then n else ws.getD c 0:=by
 simp only [List.getD,List.getElem?_set,if_pos h];by_cases hb:b=c
 ·subst hb;simp
 ·simp [hb]
theorem wI {ws vs:List Nat} {k:Nat} (h:∀ b,b<k->ws.getD b 0=vs.getD b 0):dm ws k=dm vs k:=by
 induction k with
 | zero=>simp [dm]
 | succ k ih=>rw [dL,dL,ih (fun b z=>h b (by omega)),h k (by omega)]
theorem qG {ws:List Nat} {b n:Nat} (h:b<ws.length) (E:ws.getD b 0=0):∀ k,b<k->(dm (ws.set b n) k).Perm (dm ws k++dh b n):=by
 intro k
 induction k with
 | zero=>omega
 | succ k ih=>
  intro I;rw [dL,dL,rP ws b k n h];by_cases hk:b=k
  ·subst hk;rw [if_pos rfl,E,wI (vs:=ws) (fun z J=>by rw [rP ws b z n h,if_neg (by omega)])];simp [dh]
  ·rw [if_neg hk];refine ((ih (by omega)).append_right _).trans ?_;rw [List.append_assoc,List.append_assoc];exact List.Perm.append_left _ List.perm_append_comm
theorem zr {X:List Sp} {b n:Nat} (hX:RgMay X) (z:b<12) (E:(gx X).getD b 0=0):wQ (X++dh b n)=bR ((gx X).set b n):=by
 unfold bR;refine Co ?_;have I:=qG (n:=n) (show b<(gx X).length by simp [gx];exact z) E 12 z;refine List.Perm.trans ?_ I.symm;refine List.Perm.append_right _ ?_;exact Q114
theorem gS {b n:Nat} {s:Sp} (h:s∈dh b n):s.backend=(b:Int):=by
 simp only [dh,LH] at h;obtain ⟨i,_,rfl⟩:=h
 rfl
theorem uv (ws:List Nat) (b:Nat) (z:b<ws.length):∀ k,(dm ws k).filter (fun s=>!(s.backend == (b:Int)))=dm (ws.set b 0) k:=by
 intro k
 induction k with
 | zero=>simp [dm]
 | succ k ih=>
  rw [dL,dL,List.filter_append,ih,rP ws b k 0 z]
  congr 1
  by_cases hk:b=k
  ·subst hk;rw [if_pos rfl,show dh b 0=[] by simp [dh]];refine List.filter_eq_nil_iff.2 fun s h=>?_;rw [gS h];simp
  ·rw [if_neg hk];refine List.filter_eq_self.2 fun s h=>?_;rw [gS h];simp only [Bool.not_eq_true',beq_eq_false_iff_ne,ne_eq];omega
theorem zG {X:List Sp} (h:Hs X) (p:Sp->Bool):Hs (X.filter p):=List.Pairwise.filter p h
theorem uH {X:List Sp} {b:Nat} (hX:RgMay X) (z:b<12):X.filter (fun s=>!(s.backend == (b:Int)))=bR ((gx X).set b 0):=by
 unfold bR;refine B9 (zG (by rw [hX.2.2];exact qi _) _) ?_;rw [<- uv (gx X) b (by simp [gx];exact z) 12];refine List.Perm.filter _ ?_;exact Q114
def AE (X:List Sp) (b E:Int) (L:List Sp) (c:Int):Prop:=
 (¬ RgMay X/\L=[]/\c=6)\/(RgMay X/\(b<0\/11<b\/E<1\/8<E)/\L=[]/\c=2)\/
 ∃ h z:Nat,RgMay X/\b=h/\h<12/\E=z/\1<=z/\z<=8/\((0<(gx X).getD h 0/\L=[]/\c=7)\/((gx X).getD h 0=0/\L=bR ((gx X).set h z)/\c=0))
def vQ (X:List Sp) (b:Int) (L:List Sp) (c:Int):Prop:=
 (¬ RgMay X/\L=[]/\c=6)\/(RgMay X/\(b<0\/11<b)/\L=[]/\c=8)\/
 ∃ n:Nat,RgMay X/\b=n/\n<12/\(((gx X).getD n 0=0/\L=[]/\c=8)\/(0<(gx X).getD n 0/\L=bR ((gx X).set n 0)/\c=0))
end
end Go.Proofs.YtennppmadmgfoaaGreatDoor
