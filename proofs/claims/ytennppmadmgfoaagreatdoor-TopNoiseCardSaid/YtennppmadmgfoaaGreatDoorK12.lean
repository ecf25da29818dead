/- Texts of the row's proof. Conditions: none. -/
import Derived.Test.YtennppmadmgfoaaGreatDoorK06
import Derived.Test.YtennppmadmgfoaaGreatDoorK11
namespace Go.Proofs.YtennppmadmgfoaaGreatDoor
open Proofs.Tryz
set_option maxRecDepth 100000
set_option maxHeartbeats 8000000
section
open Go.RowKit
theorem Q44 {p:Prop} (h:p:=by
 clear hb1 K;go_wp2
 all_goals first|(go_ret;exact ⟨rfl,B1.out⟩)|exact Zx):p:=h
theorem Q71 {p:Prop} (h:p:=by
 clear hx hiq;go_in;go_wp2_with fail;refine (K.out _ Zb).mono ?_;rintro e w1 ⟨rfl,hb1⟩;have B1:=KL (show Below w.heap.size w w1 from ((KM _ _).alloc (KY _) _).trans (hb1.mono (by simp)));exact Q44):p:=h
theorem Q119 {p:Prop} (h:p:=by
 rcases Nat.lt_or_ge i 26 with g|g
 ·exact g
 ·rw [Lu (by rw [jD];exact g)] at hv
  cases hv):p:=h
structure Ht where
 marks:List Bool
 out:Bool
 until_:Int
 times:Int
 deriving DecidableEq
def Ht.zero:Ht:=⟨[],false,0,0⟩
structure Wd where
 cf:Cf
 now:Int
 tab:List Sl
 flows:List Fl
 lives:List Lf
 reqs:List Rq
 ring:List Sp
 health:List Ht
 tok:Int
 wnow:Int
 lists:List (List Tm)
structure Vs where
 t:Value
 f:Value
 l:Value
 r:Value
 s:Value
 h:Value
 w:Value
 m:List Value
def dz (X:Wd) (V:Vs):List Value:=X.cf.cells++[.int .i64 X.now,V.t,V.f,V.l,V.r,V.s,V.h,.int .i64 X.tok,.int .i64 X.wnow,V.w]
def wD (m:Value) (h:Ht):List Value:=[m,.bool h.out,.int .i64 h.until_,.int .i64 h.times]
theorem jD (X:Wd) (V:Vs):(dz X V).length=26:=rfl
def dj (K:Nat->Prop) (w:World) (sz:Nat) (v:Value) (L:List (List Value)):Prop:=aK w sz v L/\∀ b o n c,v=.slice (some ⟨b,o,none⟩) n c->L≠[]->K b
theorem bI {h:Nat->Prop} {w w':World} {sz:Nat} {v:Value} {L:List (List Value)} (J:dj h w sz v L) (hs:w.heap.size<=w'.heap.size) (hb:∀ b,b<w.heap.size->h b->w'.heap[b]?=w.heap[b]?):dj h w' sz v L:=by
 obtain ⟨⟨a,I,rfl,K,U,W,Y⟩,z⟩:=J;refine ⟨⟨a,I,rfl,K,U,W,fun E=>?_⟩,z⟩;obtain ⟨b,a0,rfl,Z,h7⟩:=Y E;refine ⟨b,a0,rfl,by omega,fun i j hi hj=>?_⟩;rw [<- h7 i j hi hj];exact Lg (a:=⟨b,_,none⟩) (hb b Z (z _ _ _ _ rfl E))
theorem bU {E K':Nat->Prop} {w:World} {sz:Nat} {v:Value} {L:List (List Value)} (z:dj E w sz v L) (Y:∀ b,b<w.heap.size->E b->K' b):dj K' w sz v L:=by
 refine ⟨z.1,fun b o n c h K=>?_⟩;obtain ⟨Z,a0,I,_,_,_,U⟩:=z.1;obtain ⟨b',a1,J,W,_⟩:=U K;rw [I] at h;injection h with h _ _;rw [J] at h;injection h with h;injection h with h;subst h;exact Y _ W (z.2 _ _ _ _ (by rw [I,J]) K)
theorem eE {B:Nat} {w:World} {sz:Nat} {v:Value} {L:List (List Value)} (h:aN B w sz v L):dj (fun b=>B<=b) w sz v L:=⟨h.1,fun b o n c e _=>by have:=h.2 _ _ _ e;simpa using this⟩
def LsK (K:Nat->Prop) (w:World) (v:Value) (LL:List (List Tm)):Prop:=∃ V:List Value,V.length=LL.length/\dj K w 1 v (V.map fun x=>[x])/\∀ i,i<LL.length->dj K w 2 (V.getD i undef) ((LL.getD i []).map Tm.cells)
theorem LsK.at_ {h:Nat->Prop} {w:World} {v:Value} {LL:List (List Tm)} (z:LsK h w v LL):lQ w v LL:=by
 obtain ⟨V,E,I,J⟩:=z;exact ⟨V,E,I.1,fun U K=>(J U K).1⟩
theorem gu {h:Nat->Prop} {w w':World} {v:Value} {LL:List (List Tm)} (I:LsK h w v LL) (E:w.heap.size<=w'.heap.size) (z:∀ b,b<w.heap.size->h b->w'.heap[b]?=w.heap[b]?):LsK h w' v LL:=by
 obtain ⟨V,J,K,U⟩:=I;exact ⟨V,J,bI K E z,fun Y W=>bI (U Y W) E z⟩
theorem je {h K':Nat->Prop} {w:World} {v:Value} {LL:List (List Tm)} (E:LsK h w v LL) (z:∀ b,b<w.heap.size->h b->K' b):LsK K' w v LL:=by
 obtain ⟨V,I,J,K⟩:=E;exact ⟨V,I,bU J z,fun W U=>bU (K W U) z⟩
theorem jS {B:Nat} {w:World} {v:Value} {LL:List (List Tm)} (h:LsNew B w v LL):LsK (fun b=>B<=b) w v LL:=by
 obtain ⟨V,z,E,I⟩:=h;exact ⟨V,z,eE E,fun K J=>eE (I K J)⟩
structure oV (K:Nat->Prop) (w:World) (X:Wd) (V:Vs):Prop where
 ta:dj K w 4 V.t (X.tab.map Sl.cells)
 li:dj K w 6 V.l (X.lives.map Lf.cells)
 re:dj K w 5 V.r (X.reqs.map Rq.cells)
 sp:dj K w 2 V.s (X.ring.map Sp.cells)
 wh:LsK K w V.w X.lists
 ml:V.m.length=X.health.length
 mr:∀ i,i<X.health.length->dj K w 1 (V.m.getD i undef) (cN (X.health.getD i Ht.zero).marks)
theorem dK {I:Nat->Prop} {w w':World} {X:Wd} {V:Vs} (h:oV I w X V) (E:w.heap.size<=w'.heap.size) (z:∀ b,b<w.heap.size->I b->w'.heap[b]?=w.heap[b]?):oV I w' X V:=
 ⟨bI h.ta E z,bI h.li E z,bI h.re E z,bI h.sp E z,gu h.wh E z,h.ml,fun K J=>bI (h.mr K J) E z⟩
theorem gY {E K':Nat->Prop} {w:World} {X:Wd} {V:Vs} (h:oV E w X V) (z:∀ b,b<w.heap.size->E b->K' b):oV K' w X V:=
 ⟨bU h.ta z,bU h.li z,bU h.re z,bU h.sp z,je h.wh z,h.ml,fun J I=>bU (h.mr J I) z⟩
def eO (X:Wd) (V:Vs):List (List Value):=List.zipWith wD V.m X.health
def GR (p:Nat) (w:World) (X:Wd) (V:Vs):Prop:=oV (fun _=>True) w X V/\aK w 7 V.f (X.flows.map Fl.cells)/\aK w 4 V.h (eO X V)/\p<w.heap.size/\∀ i v,(dz X V)[i]?=some v->w.cell? ⟨p,i,none⟩=some v
structure Fr (S:List Nat) (w w':World):Prop where
 os:w'.os=w.os
 tape:w'.tape=w.tape
 output:w'.output=w.output
 size:w.heap.size<=w'.heap.size
 block:∀ b,b<w.heap.size->b∉S->w'.heap[b]?=w.heap[b]?
theorem Fr.refl (S:List Nat) (w:World):Fr S w w:=⟨rfl,rfl,rfl,KY _,fun _ _ _=>rfl⟩
theorem Fr.of_below {S:List Nat} {w w':World} (h:Below w.heap.size w w'):Fr S w w':=⟨h.os,h.tape,h.output,h.size,fun b z _=>h.block b z⟩
theorem Fr.trans {S E:List Nat} {a b c:World} (h:Fr S a b) (z:Fr E b c) (W:∀ x∈E,x∈S\/a.heap.size<=x):Fr S a c:=
 ⟨z.os.trans h.os,z.tape.trans h.tape,z.output.trans h.output,Lz h.size z.size,fun x K J=>(z.block x (Nat.lt_of_lt_of_le K h.size) (fun U=>by rcases W x U with I|I;exact J I;omega)).trans (h.block x K J)⟩
theorem Fr.below {S:List Nat} {B:Nat} {w w':World} (h:Fr S w w') (J:B<=w.heap.size) (I:∀ x∈S,B<=x):Below B w w':=
 ⟨h.os,h.tape,h.output,h.size,fun z K=>h.block z (by omega) (fun E=>by have:=I z E;omega)⟩
def NI (B:Nat) (S:List Nat) (b:Nat):Prop:=b∉S/\B<=b
structure G (B p:Nat) (w:World) (X:Wd) (O:List Out) (S:List Nat) (V:Vs) (vo:Value):Prop where
 bk:w.heap[p]?=some (.cells (dz X V++[vo]).toArray 134 (0,0))
 ro:oV (NI B S) w X V
 of:w.ownsRow B 170 7 V.f X.flows.length (X.flows.map Fl.cells).flatten
 oh:w.ownsRow B 162 4 V.h X.health.length (eO X V).flatten
 oo:w.ownsRow B 75 7 vo O.length (O.map Out.cells).flatten
 pB:B<=p
 sp:p∈S
 sB:∀ x∈S,B<=x
 sl:∀ x∈S,x<w.heap.size
 sf:∀ b,V.f.ownBlock=some b->b∈S/\b≠p
 sh:∀ b,V.h.ownBlock=some b->b∈S/\b≠p/\V.f.ownBlock≠some b
 so:∀ b,vo.ownBlock=some b->b∈S/\b≠p/\V.f.ownBlock≠some b/\V.h.ownBlock≠some b
theorem G.plt {B p:Nat} {w:World} {X:Wd} {O:List Out} {S:List Nat} {V:Vs} {vo:Value} (h:G B p w X O S V vo):p<w.heap.size:=lt_of_block h.bk
theorem G_keep {B p:Nat} {w w':World} {X:Wd} {O:List Out} {S:List Nat} {V:Vs} {vo:Value} (h:G B p w X O S V vo) (I:w.heap.size<=w'.heap.size) (E:∀ b,b<w.heap.size->w'.heap[b]?=w.heap[b]?):G B p w' X O S V vo:=
 ⟨(E p h.plt).trans h.bk,dK h.ro I (fun b J _=>E b J),aZ h.of (fun b z=>E b (h.of.lt b z).2),aZ h.oh (fun b z=>E b (h.oh.lt b z).2),aZ h.oo (fun b z=>E b (h.oo.lt b z).2),h.pB,h.sp,h.sB,fun U K=>Nat.lt_of_lt_of_le (h.sl U K) I,h.sf,h.sh,h.so⟩
theorem dF {B p:Nat} {w w':World} {X:Wd} {O:List Out} {S:List Nat} {V:Vs} {vo:Value} (z:G B p w X O S V vo) (h:Below w.heap.size w w'):G B p w' X O S V vo:=G_keep z h.size h.block
theorem ni (X:Wd) (V:Vs):∀ c∈eO X V,c.length=4:=by
 intro c h;unfold eO at h;obtain ⟨E,z,rfl⟩:=List.mem_iff_getElem.1 h;simp [wD]
theorem eC {X:Wd} {V:Vs} (h:V.m.length=X.health.length):(eO X V).length=X.health.length:=by unfold eO;rw [List.length_zipWith,h,Nat.min_self]
theorem iU (X:List Fl):∀ c∈X.map Fl.cells,c.length=7:=by intro c h;obtain ⟨z,_,rfl⟩:=LH.1 h;rfl
theorem G.gr {B p:Nat} {w:World} {X:Wd} {O:List Out} {S:List Nat} {V:Vs} {vo:Value} (h:G B p w X O S V vo):GR p w X V:=by
 refine ⟨gY h.ro (fun _ _ _=>trivial),(aG h.of (by simp) (iU _)).1,(aG h.oh (eC h.ro.ml) (ni X V)).1,h.plt,fun i E hv=>?_⟩
 have z:i<26:=by
  exact Q119
 rw [ae h.bk i,Le,LR (by rw [jD];exact z),hv]
theorem fT {p:Nat} {w w':World} {X:Wd} {V:Vs} (E:GR p w X V) (h:Below w.heap.size w w'):GR p w' X V:=by
 obtain ⟨I,J,K,U,W⟩:=E;exact ⟨dK I h.size (fun z Y _=>h.block z Y),aq J h,aq K h,by have:=h.size;omega,fun i v Z=>ah h (W i v Z) U⟩
def OfEnd (w:World) (L:List Hd) (code:Int) (e:Ending) (w':World):Prop:=∃ v,e=.returned (.tuple #[v,.int .i64 code])/\aK w' 2 v (L.map Hd.cells)/\Below w.heap.size w w'
theorem pv (X:List Sl) (b:Int) (v:Value) (w:World) (r:aK w 4 v (X.map Sl.cells)) (h:dR X):Calls prog 79 #[.agg #[v],.int .i64 b] w (OfEnd w (j8 X b X.length) 0):=by
 have r':=r;obtain ⟨a,I,rfl,l,m,n,Y⟩:=aO Sl.zero r;obtain ⟨E,W,rfl,K,Z⟩:=Y (by intro J;rw [J] at h;exact absurd h.1 (by simp));refine (rj E W I X b w K h r' Z).mono ?_;rintro e w1 ⟨v1,rfl,z,U⟩;exact ⟨v1,rfl,z.1,U⟩
end
end Go.Proofs.YtennppmadmgfoaaGreatDoor
