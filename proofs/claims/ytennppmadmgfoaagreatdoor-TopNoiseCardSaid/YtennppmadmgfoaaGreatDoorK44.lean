/- Texts of the row's proof. Conditions: none. -/
import Derived.Great.BuildSlice
import Derived.Test.YtennppmadmgfoaaGreatDoorK43
namespace Go.Proofs.YtennppmadmgfoaaGreatDoor
open Proofs.Tryz
set_option maxRecDepth 100000
set_option maxHeartbeats 8000000
section
open Go.RowKit
theorem mp {w:World} {p:Nat} {A L C:List Value} {T:TypeId} {fr:Nat×Nat} (h:w.heap[p]?=some (.cells (A++(L++C)).toArray T fr)):w.rangeAt p A.length L:=by
 intro j E hj
 have z:j<L.length:=by
  exact Q132
 rw [ae h,Le,LU (by omega),Nat.add_sub_cancel_left,LR z,hj]
theorem qV {w:World} {p:Nat} {c:Cf} {vs h:Value} {X:Wd} {V:Vs} {T:TypeId} {fr:Nat×Nat} (z:w.heap[p]?=some (.cells (EO c vs X V h).toArray T fr)):w.rangeAt p 17 (dz X V):=
 mp (A:=c.cells++[vs]) (C:=[h]) (T:=T) (fr:=fr) (by rw [z];simp [EO])
theorem oE {w:World} {p:Nat} {L:List Value} {T:TypeId} {fr:Nat×Nat} (h:w.heap[p]?=some (.cells L.toArray T fr)):w.rangeAt p 0 L:=
 mp (A:=[]) (C:=[]) (T:=T) (fr:=fr) (by rw [h];simp)
theorem join5 {α β γ δ:Type} {P F:α->β->γ->δ->World->Prop} {T:Prop} (h:(∀ a b c d w,F a b c d w->P a b c d w)->T) (key:∀ a b c d w,F a b c d w->P a b c d w):T:=h key
structure DidW (wb wz:World) (Y:Wd) (O:List Out) (nb:Nat) (V2:Vs) (a2:Option Addr) (c2:Nat):Prop where
 be:Below wb.heap.size wb wz
 bk:wz.heap[nb]?=some (.cells (dz Y V2).toArray 56 (0,0))
 nl:wb.heap.size<=nb
 wk:WK (fun b=>wb.heap.size<=b/\b≠nb) wz Y V2
 ro:dj (fun b=>wb.heap.size<=b/\b≠nb) wz 7 (.slice a2 O.length c2) (O.map Out.cells)
theorem DidW.fst {wb h:World} {E:Wd} {O:List Out} {z:Vs} {U:Option Addr} {c2:Nat} (J:Below wb.heap.size wb h) (hk:WK (fun b=>wb.heap.size<=b) h E z) (hr:aN wb.heap.size h 7 (.slice U O.length c2) (O.map Out.cells)) :
  DidW wb ((h.alloc (.cells bS 56 (0,0))).setRow h.heap.size (dz E z).toArray) E O h.heap.size z U c2:=by
 have W:h.heap.size<=((h.alloc (.cells bS 56 (0,0))).setRow h.heap.size (dz E z).toArray).heap.size:=by simp [World.setRow]
 have Y:∀ b,b<h.heap.size->((h.alloc (.cells bS 56 (0,0))).setRow h.heap.size (dz E z).toArray).heap[b]?=h.heap[b]?:=fun b I=>(setRow_other _ _ _ _ (by omega)).trans (KQ _ _ _ I)
 refine ⟨aV (J.alloc J.size _) J.size,bB (aB _ rfl),J.size,?_,?_⟩
 ·exact (hk.imp (K':=fun b=>wb.heap.size<=b/\b≠h.heap.size) (fun b Z K=>⟨K,by omega⟩)).keep W (fun b I _=>Y b I)
 ·exact bI (bU (K':=fun b=>wb.heap.size<=b/\b≠h.heap.size) (eE hr) (fun b Z K=>⟨K,by omega⟩)) W (fun b I _=>Y b I)
theorem DidW.snd {wb h:World} {E:Wd} {O:List Out} {z:Vs} {J:Option Addr} {c2:Nat} (Z:Below wb.heap.size wb h) (hx:h.heap[wb.heap.size]?=some (.cells bS 56 (0,0))) (hk:WK (fun b=>wb.heap.size+1<=b) h E z) (hr:aN (wb.heap.size+1) h 7 (.slice J O.length c2) (O.map Out.cells)) :
  DidW wb (h.setRow wb.heap.size (dz E z).toArray) E O wb.heap.size z J c2:=by
 have K:h.heap.size<=(h.setRow wb.heap.size (dz E z).toArray).heap.size:=by simp [World.setRow]
 have U:∀ b,b≠wb.heap.size->(h.setRow wb.heap.size (dz E z).toArray).heap[b]?=h.heap[b]?:=fun b I=>setRow_other _ _ _ _ I
 refine ⟨aV Z (KY _),bB hx,KY _,?_,?_⟩
 ·exact (hk.imp (K':=fun b=>wb.heap.size<=b/\b≠wb.heap.size) (fun b W Y=>⟨by omega,by omega⟩)).keep K (fun b _ I=>U b I.2)
 ·exact bI (bU (K':=fun b=>wb.heap.size<=b/\b≠wb.heap.size) (eE hr) (fun b W Y=>⟨by omega,by omega⟩)) K (fun b _ I=>U b I.2)
theorem qA {P:Program} {z:Array Oper} {S:World->Prop} {h:Oper} {a:Act} (J:Region.wanted h (yielded z a.tmps)=true) (t:TypeId) (parts:Array (Nat×Operand)) (I:h.op=.build t parts) (arr:Array Value)
  (E:P.built t (parts.map fun (i,x)=>(i,a.eval x)).toList=some arr):YieldsIf P z S h (.agg arr) a:=
 .inl ⟨J,fun K _=>by
  unfold execOp;simp only [I,Sem.run_bind,run_build K t _ arr E,Result.andThen_ok]
  rfl⟩
theorem pK {P:Program} {z:Array Oper} {S:World->Prop} {h:Oper} {a:Act} (hw:Region.wanted h (yielded z a.tmps)=true) (t:TypeId) (J K U W:Operand) (ho:h.op=.build t #[(0,J),(1,K),(2,U),(3,W)]) (E v1 v2 I:Value)
  (Y:a.eval J=E) (Z:a.eval K=v1) (h2:a.eval U=v2) (h3:a.eval W=I) (arr:Array Value) (hb:P.built t [(0,E),(1,v1),(2,v2),(3,I)]=some arr):YieldsIf P z S h (.agg arr) a:=
 qA hw t _ ho arr (by simp only [List.map_toArray,List.map_cons,List.map_nil,Y,Z,h2,h3];exact hb)
theorem iI {P:Program} {o:Oper} {a:Act} {w:World} {E:Act->World->Prop} {Q:Exit->Act->World->Prop} (t e:TypeId) (x:Operand) (U:o.op=.buildSlice t 1 #[(0,x)]) (v:Value) (hx:a.eval x=v)
  (cells:Array Value) (h:TypeInfo) (z:Value) (Z:P.underlying t=some (.slice e)) (K:P.info? e=some h) (hz:h.zero=some z) (Y:¬ 1*h.size > 2 ^ 24) (W:¬ 1*h.size=0)
  (J:Instr.fill (fun i=>some (i*h.size,h.size)) ((Array.range (1*h.size)).map (z.cells[· % z.cells.size]!)) [(0,v)]=some cells)
  (I:E (a.put o.dst (.slice (some ⟨w.heap.size,0,none⟩) 1 1)) (w.alloc (.cells cells e))):o.wp P a w E Q:=
 wp_buildSlice t e 1 _ U cells h z Z K hz Y W (by simp only [List.map_toArray,List.map_cons,List.map_nil,hx];exact J) I
def Cd:List Value:=Ev.zero.cells++(bS.toList++(bS.toList++[.slice none 0 0]))
theorem FQ:(prog.info? 70).map (fun i=>(i.zero,i.size,i.bytes))=some (some (.agg Cd.toArray),61,728):=by kernel_rfl
theorem GS (E:Ev) (X:Wd) (V:Vs) (z:Wd) (h:Vs) (a:Option Addr) (n c:Nat):prog.built 70 [(0,.agg (Ev.cells E).toArray),(1,.agg (dz X V).toArray),(2,.agg (dz z h).toArray),(3,.slice a n c)]=some (Ev.cells E++(dz X V++(dz z h++[Value.slice a n c]))).toArray:=by kernel_rfl
theorem vz (arr:List Value) (z:arr.length=61):Instr.fill (fun i=>some (i*61,61)) ((Array.range (1*61)).map ((Value.agg Cd.toArray).cells[· % (Value.agg Cd.toArray).cells.size]!)) [(0,.agg arr.toArray)]=some arr.toArray:=by
 have E:((Array.range (1*61)).map ((Value.agg Cd.toArray).cells[· % (Value.agg Cd.toArray).cells.size]!)).size=61:=by simp
 have:=Great.fill_whole (s:=61) (by decide) [.agg arr.toArray] ((Array.range (1*61)).map ((Value.agg Cd.toArray).cells[· % (Value.agg Cd.toArray).cells.size]!)) (by intro I h;simp at h;subst h;simpa [Value.cells] using z) (by rw [E];rfl);simpa [Value.cells] using this
def RgS (p be I:Nat) (h z E:List Value) (w:World):Prop:=w.rangeAt p 17 h/\w.rangeAt be 0 z/\w.rangeAt I 0 E
theorem fV {w w':World} {b o:Nat} {L:List Value} (z:w.rangeAt b o L) (E:w'.heap[b]?=w.heap[b]?):w'.rangeAt b o L:=fun h J I=>(Lg (w:=w) (w':=w') (a:=⟨b,o+h,none⟩) E).trans (z h J I)
theorem RgS.blk {p be h:Nat} {E I J:List Value} {w w':World} (z:RgS p be h E I J w) (K:w'.heap[p]?=w.heap[p]?) (U:w'.heap[be]?=w.heap[be]?) (W:w'.heap[h]?=w.heap[h]?):RgS p be h E I J w':=⟨fV z.1 K,fV z.2.1 U,fV z.2.2 W⟩
theorem RgS.set {p be z:Nat} {E I J:List Value} {w:World} (h:RgS p be z E I J w) (K:be≠p) (U:z≠p) (u:Value):RgS p be z E I J (w.setCell ⟨p,16,none⟩ u):=
 ⟨fun Y Z W=>(iz (by omega)).trans (h.1 Y Z W),fV h.2.1 (KV _ _ _ _ K),fV h.2.2 (KV _ _ _ _ U)⟩
theorem uY {K K':Nat->Prop} {w w':World} (U:Ev) {X:Wd} {V:Vs} {E:Wd} {z:Vs} (a:Option Addr) (n c:Nat) (W:WK K w X V) (k:WK K' w' E z):∀ u∈qh ⟨U,X,E,[]⟩ ⟨V,z,.slice a n c⟩,u.oneCell'=true:=by
 intro u h;have I:=kH W;have J:=kH k;rw [Array.all_eq_true_iff_forall_mem] at I J;unfold qh at h;rcases List.mem_append.1 h with h|h
 ·simp [Ev.cells] at h;rcases h with rfl|rfl|rfl|rfl|rfl|rfl|rfl|rfl<;>rfl
 ·rcases List.mem_append.1 h with h|h
  ·exact I u (by simpa using h)
  ·rcases List.mem_append.1 h with h|h
   ·exact J u (by simpa using h)
   ·simp at h;subst h
    rfl
theorem join3 {α β:Type} {P F:α->β->World->Prop} {T:Prop} (h:(∀ a b w,F a b w->P a b w)->T) (key:∀ a b w,F a b w->P a b w):T:=h key
structure DidS (B p:Nat) (w wq w7:World) (c:Cf) (P:mc) (VL:Vs) (MS:List Ms) (av:Option Addr) (cv:Nat) (vg:Value) (news:List Value) (a6:Option Addr) (c6:Nat):Prop where
 ow:w7.ownsRow B 70 61 (.slice a6 (P.steps.length+1) c6) (P.steps.length+1) ((pN P MS).flatten++news)
 bk:w7.heap[p]?=some (.cells (EO c (.slice a6 (P.steps.length+1) c6) P.last VL vg).toArray 59 (0,0))
 fr:∀ b,b<wq.heap.size->(Value.slice av P.steps.length cv).ownBlock≠some b->b≠p->w7.heap[b]?=wq.heap[b]?
 sz:wq.heap.size<=w7.heap.size
 nw:∀ b,(Value.slice a6 (P.steps.length+1) c6).ownBlock=some b->(Value.slice av P.steps.length cv).ownBlock=some b\/wq.heap.size<=b
 be:Below B w w7
theorem lY {b:Nat} {T:TypeId} {fr:Nat×Nat} {A3:List Value}:∀ (L z A1:List Value) (w:World),w.heap[b]?=some (.cells (A1++(z++A3)).toArray T fr)->z.length=L.length->(w.setCells b A1.length L).heap[b]?=some (.cells (A1++(L++A3)).toArray T fr)
 | [],z,A1,w,h,hl=>by
  have:z=[]:=List.length_eq_zero_iff.1 hl;subst this;exact h
 | v :: L,[],A1,w,h,hl=>by simp at hl
 | v :: L,U :: z,A1,w,h,hl=>by
  have E:=aR h v (j:=A1.length);have J:(A1++(U :: z++A3)).toArray.setIfInBounds A1.length v=(A1++[v]++(z++A3)).toArray:=by simp
  rw [J] at E;have I:=lY L z (A1++[v]) (w.setCell ⟨b,A1.length,none⟩ v) E (by simpa using hl);have K:(A1++[v]).length=A1.length+1:=by simp
  rw [K] at I;show ((w.setCell ⟨b,A1.length,none⟩ v).setCells b (A1.length+1) L).heap[b]?=_
  rw [I];simp
theorem fI {b g:Nat} (h:b≠g):∀ (L:List Value) (o:Nat) (w:World),(w.setCells g o L).heap[b]?=w.heap[b]?
 | [],_,_=>rfl
 | _ :: L,o,_=>(fI h L (o+1) _).trans (KV _ _ _ _ h)
theorem lT {g:Nat}:∀ (L:List Value) (o:Nat) (w:World),(w.setCells g o L).heap.size=w.heap.size
 | [],_,_=>rfl
 | _ :: L,o,_=>(lT L (o+1) _).trans (by simp)
theorem kU {B g:Nat} {a:World} (z:B<=g):∀ (L:List Value) (o:Nat) (w:World),Below B a w->Below B a (w.setCells g o L)
 | [],_,_,h=>h
 | _ :: L,o,_,h=>kU z L (o+1) _ (h.setCell z _)
theorem Cm {w:World} {p:Nat} {A1 L A3:List Value} {T:TypeId} (h:w.heap[p]?=some (.cells (A1++(L++A3)).toArray T (0,0))) {n:Nat} (I:n=L.length):w.there p A1.length n:=by
 intro z E;refine ⟨?_,az h _⟩;rw [mp h z (L[z]'(by omega)) (Lj (by omega))]
 rfl
theorem tT {α:Type} (L:List α) (x d:α) (i:Nat) (h:i<L.length+1):(L++[x]).getD i d=if i<L.length then L.getD i d else x:=by
 by_cases g:i<L.length
 ·rw [if_pos g];simp only [List.getD];rw [LR g]
 ·rw [if_neg g];simp only [List.getD];rw [LU (by omega)];have:i - L.length=0:=by omega
  rw [this]
  rfl
theorem PG.stepped {B p N nb:Nat} {w J w7:World} {c:Cf} {P:mc} {VL K:Vs} {Z:List Ms} {W a2 a6:Option Addr} {Y c2 c6:Nat} {vg:Value} {ev:Ev} {I:Wd} {O:List Out}
  (h:PG B p J c P VL Z (.slice W P.steps.length Y) vg) (hS:DidS B p w J w7 c P VL Z W Y vg (qh ⟨ev,P.last,I,[]⟩ ⟨VL,K,.slice a2 O.length c2⟩) a6 c6)
  (hW:WK (fun b=>N<=b/\b≠nb) J I K) (hR:dj (fun b=>N<=b/\b≠nb) J 7 (.slice a2 O.length c2) (O.map Out.cells)) (hp:p<N)
  (hs:∀ b,(Value.slice W P.steps.length Y).ownBlock=some b->b<N) (hg:∀ b,vg.ownBlock=some b->b<N) :
  PG B p (w7.setCells p 17 (dz I K)) c ⟨P.steps++[⟨ev,P.last,I,O⟩],I,P.given⟩ K (Z++[⟨VL,K,.slice a2 O.length c2⟩]) (.slice a6 (P.steps.length+1) c6) vg:=by
 have a9:=lt_of_block h.bk
 have a3:J.heap.size<=(w7.setCells p 17 (dz I K)).heap.size:=by rw [lT];exact hS.sz
 have a4:∀ b,(Value.slice a6 (P.steps.length+1) c6).ownBlock=some b->b≠p:=fun b z=>by
  rcases hS.nw b z with E|E
  ·exact (h.ps b E).1
  ·omega
 have kp:∀ b,b<J.heap.size->NP p (.slice W P.steps.length Y) vg b->(w7.setCells p 17 (dz I K)).heap[b]?=J.heap[b]?:=fun b h1 U=>(fI U.1 _ _ _).trans (hS.fr b h1 U.2.1 U.1)
 have np:∀ b,b<J.heap.size->NP p (.slice W P.steps.length Y) vg b->NP p (.slice a6 (P.steps.length+1) c6) vg b:=fun b h1 U=>⟨U.1,fun z=>by
  rcases hS.nw b z with E|E
  ·exact U.2.1 E
  ·omega,U.2.2⟩
 have nn:∀ b,b<J.heap.size->(N<=b/\b≠nb)->NP p (.slice W P.steps.length Y) vg b:=fun b _ U=>⟨by omega,fun z=>by have:=hs b z;omega,fun z=>by have:=hg b z;omega⟩
 have mr:∀ {sz:Nat} {v:Value} {L:List (List Value)},dj (NP p (.slice W P.steps.length Y) vg) J sz v L->dj (NP p (.slice a6 (P.steps.length+1) c6) vg) (w7.setCells p 17 (dz I K)) sz v L:=fun r=>
  bU (bI (bU (K':=fun b=>NP p (.slice W P.steps.length Y) vg b/\b<J.heap.size) r (fun b hb h=>⟨h,hb⟩)) a3 (fun b h1 U=>kp b h1 U.1)) (fun b _ h=>np b h.2 h.1)
 have mv:∀ {X:Wd} {V:Vs},WK (NP p (.slice W P.steps.length Y) vg) J X V->WK (NP p (.slice a6 (P.steps.length+1) c6) vg) (w7.setCells p 17 (dz I K)) X V:=fun q=>
  ((q.imp (K':=fun b=>NP p (.slice W P.steps.length Y) vg b/\b<J.heap.size) (fun b hb h=>⟨h,hb⟩)).keep a3 (fun b h1 U=>kp b h1 U.1)).imp (fun b _ h=>np b h.2 h.1)
 have a0:=(hW.imp nn)
 have a5:=bU hR nn
 have a7:(pN ⟨P.steps++[⟨ev,P.last,I,O⟩],I,P.given⟩ (Z++[⟨VL,K,.slice a2 O.length c2⟩])).flatten=(pN P Z).flatten++qh ⟨ev,P.last,I,[]⟩ ⟨VL,K,.slice a2 O.length c2⟩:=by
  unfold pN;simp only;rw [List.zipWith_append (by rw [h.ml])];simp
  rfl
 refine ⟨?_,?_,?_,h.pB,fun b z=>⟨a4 b z,fun E=>?_⟩,h.pg,by simp [h.ml],?_,fun i hi=>?_⟩
 ·have:=lY (b:=p) (A3:=[vg]) (dz I K) (dz P.last VL) (c.cells++[.slice a6 (P.steps.length+1) c6]) w7 hS.bk (by rw [jD,jD]);exact this
 ·show World.ownsRow _ _ _ _ _ (P.steps++[_]).length _
  rw [a7,Ll];exact aZ hS.ow (fun b z=>fI (a4 b z) _ _ _)
 ·refine aZ h.og (fun b z=>(fI (h.pg b z) _ _ _).trans (hS.fr b (h.og.lt b z).2 (fun E=>(h.ps b E).2 z) (h.pg b z)))
 ·rcases hS.nw b z with k|k
  ·exact (h.ps b k).2 E
  ·have:=(h.og.lt b E).2;omega
 ·exact mv a0
 ·have a1:i<P.steps.length+1:=by simpa using hi
  have a8:i<Z.length+1:=by rw [h.ml];exact a1
  show StW _ _ ((P.steps++[_]).getD i Stp.zero) ((Z++[_]).getD i Ms.zero)
  rw [tT _ _ _ _ a1,tT _ _ _ _ a8,h.ml];by_cases E:i<P.steps.length
  ·rw [if_pos E,if_pos E];have:=h.ws i E;exact ⟨mv this.b,mv this.a,mr this.o⟩
  ·rw [if_neg E,if_neg E];exact ⟨mv h.wl,mv a0,mr a5⟩
theorem Hl {O:List Out} {k:Nat} (h:k<O.length):oR (O.take (k+1))=oR (O.take k)++(if (O.getD k Out.zero).kind=1 then [⟨(O.getD k Out.zero).slot,(O.getD k Out.zero).gen⟩] else []):=by
 unfold oR;rw [Li h,List.filter_append,LG,aQ h];by_cases g:O[k].kind=1
 ·rw [if_pos g];simp [g]
 ·rw [if_neg g];simp [g]
theorem JO {X:Wd} (e:Ev):(oR (nM X e).2).length<=1:=by
 exact Q53
theorem yO {O:List Out} (k:Nat):(oR (O.take k)).length<=(oR O).length:=by
 unfold oR;rw [Lh,Lh];exact ((List.take_sublist k O).filter _).length_le
theorem PG.gave {B p:Nat} {w Y:World} {c:Cf} {P:mc} {VL:Vs} {MS:List Ms} {vs:Value} {I U:Option Addr} {J W:Nat} {hd:Hd} (h:PG B p w c P VL MS vs (.slice I P.given.length J))
  (ow:Y.ownsRow B 111 2 (.slice U (P.given.length+1) W) (P.given.length+1) ((P.given.map Hd.cells).flatten++Hd.cells hd)) (bk:Y.heap[p]?=some (.cells (EO c vs P.last VL (.slice U (P.given.length+1) W)).toArray 59 (0,0)))
  (fr:∀ b,b<w.heap.size->(Value.slice I P.given.length J).ownBlock≠some b->b≠p->Y.heap[b]?=w.heap[b]?) (sz:w.heap.size<=Y.heap.size) (nw:∀ b,(Value.slice U (P.given.length+1) W).ownBlock=some b->(Value.slice I P.given.length J).ownBlock=some b\/w.heap.size<=b) :
  PG B p Y c ⟨P.steps,P.last,P.given++[hd]⟩ VL MS vs (.slice U (P.given.length+1) W):=by
 have lp:=lt_of_block h.bk
 have kp:∀ b,b<w.heap.size->NP p vs (.slice I P.given.length J) b->Y.heap[b]?=w.heap[b]?:=fun b Z E=>fr b Z E.2.2 E.1
 have np:∀ b,b<w.heap.size->NP p vs (.slice I P.given.length J) b->NP p vs (.slice U (P.given.length+1) W) b:=fun b Z E=>⟨E.1,E.2.1,fun z=>by
  rcases nw b z with K|K
  ·exact E.2.2 K
  ·omega⟩
 have mr:∀ {sz:Nat} {v:Value} {L:List (List Value)},dj (NP p vs (.slice I P.given.length J)) w sz v L->dj (NP p vs (.slice U (P.given.length+1) W)) Y sz v L:=fun r=>
  bU (bI (bU (K':=fun b=>NP p vs (.slice I P.given.length J) b/\b<w.heap.size) r (fun b hb h=>⟨h,hb⟩)) sz (fun b Z E=>kp b Z E.1)) (fun b _ h=>np b h.2 h.1)
 have mv:∀ {X:Wd} {V:Vs},WK (NP p vs (.slice I P.given.length J)) w X V->WK (NP p vs (.slice U (P.given.length+1) W)) Y X V:=fun q=>
  ((q.imp (K':=fun b=>NP p vs (.slice I P.given.length J) b/\b<w.heap.size) (fun b hb h=>⟨h,hb⟩)).keep sz (fun b Z E=>kp b Z E.1)).imp (fun b _ h=>np b h.2 h.1)
 have a0:∀ b,(Value.slice U (P.given.length+1) W).ownBlock=some b->b≠p:=fun b z=>by
  rcases nw b z with K|K
  ·exact h.pg b K
  ·omega
 refine ⟨bk,aZ h.os (fun b z=>fr b (h.os.lt b z).2 (fun K=>(h.ps b z).2 K) (h.ps b z).1),?_,h.pB,fun b z=>⟨(h.ps b z).1,fun K=>?_⟩,a0,h.ml,mv h.wl,fun i hi=>?_⟩
 ·show World.ownsRow _ _ _ _ _ (P.given++[hd]).length ((P.given++[hd]).map Hd.cells).flatten
  rw [Ll,LG,Lv];simpa using ow
 ·rcases nw b K with k|k
  ·exact (h.ps b z).2 k
  ·have:=(h.os.lt b z).2;omega
 ·have:=h.ws i hi;exact ⟨mv this.b,mv this.a,mr this.o⟩
theorem Gb:(prog.info? 111).map (fun i=>(i.zero,i.size,i.bytes))=some (some (.agg #[.int .i64 0,.int .i64 0]),2,16):=by kernel_rfl
theorem hd_one (x:Hd):∀ u∈Hd.cells x,u.oneCell'=true:=by
 intro u h;simp [Hd.cells] at h;rcases h with rfl|rfl<;>rfl
def GvR (B p:Nat) (w:World) (c:Cf) (S:List Stp) (X:Wd) (G:List Hd) (V:Vs) (M:List Ms) (vs:Value) (wr:World):Prop:=Below B w wr/\∃ a n,PG B p wr c ⟨S,X,G⟩ V M vs (.slice a G.length n)
def BU (B p:Nat) (w:World) (c:Cf) (P:mc) (e:Ending) (w':World):Prop:=∃ z h vs E,e=.returned (.bool true)/\PG B p w' c P z h vs E/\Below B w w'
theorem qY {B p:Nat} {w:World} {c:Cf} {P:mc} {Y:Vs} {MS:List Ms} {vs vg:Value} (h:PG B p w c P Y MS vs vg) (bW:BM c P) (ev:Ev) (he:EvGood ev) (hn:P.steps.length<=100000) (df:P.given.length<=P.steps.length) :
  Calls prog 11 #[.pointer (some ⟨p,0,none⟩),.agg (Ev.cells ev).toArray] w (BU B p w c (tX P ev)):=by
 have bn:=KL bW
 have HE:=KL he
 have HP:=KL h
 have hp:=lt_of_block h.bk
 obtain ⟨z,hR⟩:∃ z,z=nM P.last ev:=⟨_,rfl⟩
 have HR:=KL hR
 have cp:EvMay P.last ev:=he.may (by have:=bW.nw;omega)
 have bt:=KL cp
 obtain ⟨EA,bx⟩:∃ EA,EA=(Ev.cells ev).toArray:=⟨_,rfl⟩
 rw [<- bx]
 have cY:=KL bx
 clear h bW he hR cp bx
 go_in
 go_wp2_with fail
 refine bA _ (fun wb c0=>?_)
 have bp:Below w.heap.size w wb:=by rw [c0];exact (KM _ _).alloc (KY _) _
 have bz:wb.heap[w.heap.size]?=some (.cells (Ev.cells ev).toArray 61 (0,0)):=by rw [c0,<- cY.out];exact aB _ rfl
 have U:=KL (HP.out.below bp)
 have a7:=KL bz
 have bk:=KL bp
 have ak:p<wb.heap.size:=by have:=bp.size;omega
 have al:=lt_of_block bz
 have cc:=HP
 clear c0 bp bz HP
 refine join5 (P:=?jP1) (F:=fun nb V2 a2 c2 wz=>DidW wb wz z.1 z.2 nb V2 a2 c2) (fun key=>?jm1) ?jr1
 case jm1=>
  refine Zr (fun w':World=>w'.heap[p]?=some (.cells (EO c vs P.last Y vg).toArray 59 (0,0))/\w'.heap[w.heap.size]?=some (.cells (Ev.cells ev).toArray 61 (0,0))) (fun a5=>?_) (by (try dsimp only);(first|exact ⟨U.out.bk,a7.out⟩|exact I|exact ⟨(KQ _ _ _ ak).trans U.out.bk,(KQ _ _ _ al).trans a7.out⟩|exact ⟨(KQ _ _ _ (by omega)).trans I.1,(KQ _ _ _ (by omega)).trans I.2⟩|exact ⟨bD ((KQ _ _ _ (by omega)).trans I.1) (by omega),bD ((KQ _ _ _ (by omega)).trans I.2) (by omega)⟩|exact ⟨bD I.1 (by omega),bD I.2 (by omega)⟩));refine dl 0 ?_;refine Zt 2 ?_;refine Zw 3 ?_ (hy:=yieldsIf_load_mid (by rfl) 56 (.tmp 12) rfl p 17 rfl (dz P.last Y) _ (fun _ aw=>qV aw.1) underlying56 rfl (by kernel_rfl));refine Zw 4 ?_ (hy:=yieldsIf_load_mid (by rfl) 61 (.tmp 3) rfl w.heap.size 0 rfl (Ev.cells ev) _ (fun _ aw=>oE aw.2) underlying61 rfl (by kernel_rfl));refine Z2 5 10 (fun K hK=>?_) (fun K hK=>?_);(focus (go_simp;(go_at_call 25;refine (Bc (WA.below U.out.wl.wa Zb) bn.out.wd ev HE.out.ok bt.out).mono ?_;rw [<- HR.out];rintro E w2 ⟨V2,a2,c2,rfl,bi,bX,hb2⟩;have c1:=hb2.size;(try simp at c1);have I:w2.heap[p]?=some (.cells (EO c vs P.last Y vg).toArray 59 (0,0))/\w2.heap[w.heap.size]?=some (.cells (Ev.cells ev).toArray 61 (0,0)):=(by first|exact ⟨aj hb2 U.out.bk ak,aj hb2 a7.out al⟩|exact ⟨aj hb2 ((heap_alloc_old _ _ ak).trans U.out.bk) (by simp;omega),aj hb2 ((heap_alloc_old _ _ al).trans a7.out) (by simp;omega)⟩);(try (have bv:=aj hb2 (cO wb _) (dP wb _)));(try dsimp only));(try go_wp2_with fail);refine Zk hK (hS:=by (try dsimp only);(first|exact ⟨U.out.bk,a7.out⟩|exact I|exact ⟨(KQ _ _ _ ak).trans U.out.bk,(KQ _ _ _ al).trans a7.out⟩|exact ⟨(KQ _ _ _ (by omega)).trans I.1,(KQ _ _ _ (by omega)).trans I.2⟩|exact ⟨bD ((KQ _ _ _ (by omega)).trans I.1) (by omega),bD ((KQ _ _ _ (by omega)).trans I.2) (by omega)⟩|exact ⟨bD I.1 (by omega),bD I.2 (by omega)⟩)) fun a5=>?_;clear hK K;refine eY 6 ?_;refine Z1 10 (fun K hK=>?_);go_simp;refine Zk hK (hS:=by (try dsimp only);(first|exact ⟨U.out.bk,a7.out⟩|exact I|exact ⟨(KQ _ _ _ ak).trans U.out.bk,(KQ _ _ _ al).trans a7.out⟩|exact ⟨(KQ _ _ _ (by omega)).trans I.1,(KQ _ _ _ (by omega)).trans I.2⟩|exact ⟨bD ((KQ _ _ _ (by omega)).trans I.1) (by omega),bD ((KQ _ _ _ (by omega)).trans I.2) (by omega)⟩|exact ⟨bD I.1 (by omega),bD I.2 (by omega)⟩)) fun a5=>?_;clear hK K));rotate_left 1;(focus (go_simp;refine Zk hK (hS:=by (try dsimp only);(first|exact ⟨U.out.bk,a7.out⟩|exact I|exact ⟨(KQ _ _ _ ak).trans U.out.bk,(KQ _ _ _ al).trans a7.out⟩|exact ⟨(KQ _ _ _ (by omega)).trans I.1,(KQ _ _ _ (by omega)).trans I.2⟩|exact ⟨bD ((KQ _ _ _ (by omega)).trans I.1) (by omega),bD ((KQ _ _ _ (by omega)).trans I.2) (by omega)⟩|exact ⟨bD I.1 (by omega),bD I.2 (by omega)⟩)) fun a5=>?_;clear hK K;refine Z1 5 (fun K hK=>?_);go_simp;(go_at_call 25;refine (Bc (WA.below U.out.wl.wa Zb) bn.out.wd ev HE.out.ok bt.out).mono ?_;rw [<- HR.out];rintro E w2 ⟨V2,a2,c2,rfl,bi,bX,hb2⟩;have c1:=hb2.size;(try simp at c1);have I:w2.heap[p]?=some (.cells (EO c vs P.last Y vg).toArray 59 (0,0))/\w2.heap[w.heap.size]?=some (.cells (Ev.cells ev).toArray 61 (0,0)):=(by first|exact ⟨aj hb2 U.out.bk ak,aj hb2 a7.out al⟩|exact ⟨aj hb2 ((heap_alloc_old _ _ ak).trans U.out.bk) (by simp;omega),aj hb2 ((heap_alloc_old _ _ al).trans a7.out) (by simp;omega)⟩);(try (have bv:=aj hb2 (cO wb _) (dP wb _)));(try dsimp only));(try go_wp2_with fail);refine Zk hK (hS:=by (try dsimp only);(first|exact ⟨U.out.bk,a7.out⟩|exact I|exact ⟨(KQ _ _ _ ak).trans U.out.bk,(KQ _ _ _ al).trans a7.out⟩|exact ⟨(KQ _ _ _ (by omega)).trans I.1,(KQ _ _ _ (by omega)).trans I.2⟩|exact ⟨bD ((KQ _ _ _ (by omega)).trans I.1) (by omega),bD ((KQ _ _ _ (by omega)).trans I.2) (by omega)⟩|exact ⟨bD I.1 (by omega),bD I.2 (by omega)⟩)) fun a5=>?_;clear hK K;refine eY 6 ?_));rotate_left 1;(all_goals (refine Z1 11 (fun K hK=>?_);rw [if_pos (by rfl)];(first|(refine LQ 56 (.tmp 5) (.tmp 16) rfl w2.heap.size (dz z.1 V2).toArray rfl rfl 56 bS (aB _ rfl) (by kernel_rfl) rfl (kH bi) ?_)|(refine LQ 56 (.tmp 5) (.tmp 16) rfl wb.heap.size (dz z.1 V2).toArray rfl rfl 56 bS bv (by kernel_rfl) rfl (kH bi) ?_));refine Zk hK (hS:=by (try dsimp only);(first|exact ⟨U.out.bk,a7.out⟩|exact I|exact ⟨(KQ _ _ _ ak).trans U.out.bk,(KQ _ _ _ al).trans a7.out⟩|exact ⟨(KQ _ _ _ (by omega)).trans I.1,(KQ _ _ _ (by omega)).trans I.2⟩|exact ⟨bD ((KQ _ _ _ (by omega)).trans I.1) (by omega),bD ((KQ _ _ _ (by omega)).trans I.2) (by omega)⟩|exact ⟨bD I.1 (by omega),bD I.2 (by omega)⟩)) fun a5=>?_;clear hK K;refine dl 12 ?_));(all_goals refine Zd ?_)
  ·refine bA _ (fun wz hwz=>?_);have hD:=DidW.fst (wb:=wb) (KS (KN (KM _ _)) (hb2.mono (by simp))) bi bX;obtain ⟨nb,hnb⟩:∃ nb,nb=w2.heap.size:=⟨_,rfl⟩;exact Q153
  ·refine bA _ (fun wz hwz=>?_);have hD:=DidW.snd (wb:=wb) (KS (KN ((KM _ _).alloc (KY _) _)) (hb2.mono (by simp))) bv (bi.imp (fun b _ h=>by simpa using h)) (aJ bX (by simp));obtain ⟨nb,hnb⟩:∃ nb,nb=wb.heap.size:=⟨_,rfl⟩;exact Q153
 case jr1=>
  intro nb V2 a2 c2 wz hD;have HD:=KL hD;obtain ⟨aT,cT,eT,_⟩:=ap hD.wk.ro.ta.1
  have cx:(z.1.tab.length:Int)=c.flows:=by
   have h1:=(Ku bn.out.wd bt.out).gw.tl;have h2:=Kv P.last ev;rw [<- HR.out] at h1 h2;rw [h1,h2,bn.out.cf]
  have bm:=KL (U.out.below hD.be);have bC:=aj hD.be a7.out al;have lz:=hD.be.size
  have x0:wz.cell? ⟨p,0,none⟩=some (.int .i64 (z.1.tab.length:Int)):=by rw [ae bm.out.bk 0,cx];rfl
  have dc:wz.cell? ⟨nb,17,none⟩=some (.slice aT z.1.tab.length cT):=by rw [<- eT];rw [ae hD.bk 17];rfl
  have cK:=lt_of_block hD.bk;have db:=lt_of_block bm.out.bk;have cH:=lt_of_block bC;have c9:=KL bC;clear hD eT cx bC al;go_wp2_with fail;go_quiet (fail);go_wp2_with fail;refine bA _ (fun wq cF=>?_)
  have ar:Below wz.heap.size wz wq:=by rw [cF];exact (by repeat (first|exact KM _ _|refine aM ?_|refine KN ?_))
  have W:=KL (bm.out.below ar);obtain ⟨av,cv,cf,_⟩:=aE W.out.os;have b9:=KL (aj ar c9.out cH);have aH:=KL (aj ar HD.out.bk cK);have cC:=HD.out.wk.keep ar.size (fun b h _=>ar.block b h);have ba:=KL cC;have bu:=KL (bI HD.out.ro ar.size (fun b h _=>ar.block b h))
  have aS:wq.cell? ⟨p,16,none⟩=some (.slice av P.steps.length cv):=by rw [<- cf];rw [ae W.out.bk 16];rfl
  have b8:∀ n,wq.frozen? ⟨p,n,none⟩=false:=fun n=>az W.out.bk n;have ao:=lt_of_block W.out.bk;have aF:=lt_of_block b9.out;have ax:=lt_of_block aH.out;have ay:w.heap.size≠p:=by omega
  have an:nb≠p:=by have:=HD.out.nl;omega
  have a8:=KL (show RgS p w.heap.size nb (dz P.last Y) (Ev.cells ev) (dz z.1 V2) wq from ⟨qV W.out.bk,oE b9.out,oE aH.out⟩);have cw:∀ b,vs.ownBlock=some b->b≠p/\b<wb.heap.size:=fun b E=>⟨(U.out.ps b E).1,(U.out.os.lt b E).2⟩
  have cu:∀ b,vs.ownBlock=some b->b≠w.heap.size:=fun b E=>by have:=(cc.out.os.lt b E).2;omega
  have af:=KL (And.intro cw cu);have cd:=KL (show Below w.heap.size w wq from (bk.out.trans (HD.out.be.mono bk.out.size)).trans (ar.mono (Lz bk.out.size HD.out.be.size)));subst cf;obtain ⟨i0,hi,au,ac,bb⟩:=info_parts FQ;clear cF ar cC x0 dc db cH cK lz cw cu;have bw:=W.out.pB;refine join3 (P:=?jP2) (F:=fun a6 c6 w7=>DidS B p w wq w7 c P Y MS av cv vg (qh ⟨ev,P.last,z.1,[]⟩ ⟨Y,V2,.slice a2 z.2.length c2⟩) a6 c6) (fun key=>?jm2) ?jr2
  case jm2=>
   refine Zr (RgS p w.heap.size nb (dz P.last Y) (Ev.cells ev) (dz z.1 V2)) (fun a5=>?_) (by (try dsimp only);(first|exact a8.out|exact a8.out.blk (KQ _ _ _ ao) (KQ _ _ _ aF) (KQ _ _ _ ax)|exact a9|exact a9.set ay an _));refine eY 0 ?_;refine Zw 5 ?_ (hy:=yieldsIf_load_mid (by rfl) 61 (.tmp 3) rfl w.heap.size 0 rfl (Ev.cells ev) _ (fun _ aw=>aw.2.1) underlying61 rfl (by kernel_rfl));refine dl 6 ?_;refine Zt 8 ?_;refine Zw 9 ?_ (hy:=yieldsIf_load_mid (by rfl) 56 (.tmp 41) rfl p 17 rfl (dz P.last Y) _ (fun _ aw=>aw.1) underlying56 rfl (by kernel_rfl));refine Zw 10 ?_ (hy:=yieldsIf_load_mid (by rfl) 56 (.tmp 5) rfl nb 0 rfl (dz z.1 V2) _ (fun _ aw=>aw.2.2) underlying56 rfl (by kernel_rfl));refine Zt 11 ?_;refine Zw 12 ?_ (hy:=pK (by rfl) 70 (.tmp 38) (.tmp 42) (.tmp 43) (.tmp 44) rfl _ _ _ _ rfl rfl rfl rfl _ (GS ev P.last Y z.1 V2 a2 z.2.length c2));refine Z2 4 13 (fun K hK=>?_) (fun K hK=>?_);(focus (go_simp;refine Zk hK (hS:=by (try dsimp only);(first|exact a8.out|exact a8.out.blk (KQ _ _ _ ao) (KQ _ _ _ aF) (KQ _ _ _ ax)|exact a9|exact a9.set ay an _)) fun a5=>?_;clear hK K;refine Z1 13 (fun K hK=>?_);rw [if_pos (by rfl)];(first|(refine iI 37 70 (.tmp 45) rfl (.agg (qh ⟨ev,P.last,z.1,[]⟩ ⟨Y,V2,.slice a2 z.2.length c2⟩).toArray) rfl (qh ⟨ev,P.last,z.1,[]⟩ ⟨Y,V2,.slice a2 z.2.length c2⟩).toArray i0 (.agg Cd.toArray) underlying37 hi au (by rw [ac];decide) (by rw [ac];decide) (by rw [ac];exact vz (qh ⟨ev,P.last,z.1,[]⟩ ⟨Y,V2,.slice a2 z.2.length c2⟩) rfl) ?_)|(refine fo _ (.tmp 37) (.tmp 46) 37 rfl B 70 i0 (.agg Cd.toArray) 61 728 underlying37 hi au ac bb rfl (by decide) _ _ _ rfl (bF W.out.os Zb) ⟨wq.heap.size,0,none⟩ 1 1 (qh ⟨ev,P.last,z.1,[]⟩ ⟨Y,V2,.slice a2 z.2.length c2⟩) rfl rfl (fun j u h=>fO (w:=wq) rfl _ 70 j u h) (uY ev a2 z.2.length c2 W.out.wl ba.out) (by unfold maxLen;omega) (by omega) (by have:=W.out.pB;simp;omega) ?_;intro v6 J ad ab am;obtain ⟨a6,c6,e6,_⟩:=aE ad;subst e6;have a4:∀ b,b<wq.heap.size->(Value.slice av P.steps.length cv).ownBlock≠some b->J.heap[b]?=wq.heap[b]?:=(fun b hb aa=>(ab.block b (by simp;omega) (fun E=>aa E.symm)).trans ((KN ((KM wq.heap.size wq).alloc (KY _) _)).block b hb));have a3:J.heap[p]?=wq.heap[p]?:=(a4 p ao (fun E=>(af.out.1 p E).1 rfl));have hb6:J.heap[w.heap.size]?=wq.heap[w.heap.size]?:=(a4 _ (lt_of_block b9.out) (fun E=>af.out.2 _ E rfl));have aA:J.heap[nb]?=wq.heap[nb]?:=(a4 _ (lt_of_block aH.out) (fun E=>by have:=(af.out.1 _ E).2;have:=HD.out.nl;omega));have a9:=a8.out.blk a3 hb6 aA;have aS:=(Lg (w:=wq) (w':=J) (a:=⟨p,16,none⟩) a3).trans aS;have c3:p<J.heap.size:=lt_of_block (a3.trans W.out.bk);have b8:∀ n,J.frozen? ⟨p,n,none⟩=false:=(fun n=>az (a3.trans W.out.bk) n);have H6:=KL (And.intro ad (And.intro ab (And.intro am (And.intro a4 (And.intro a3 aA)))));clear ad ab am a4 hb6));refine Zk hK (hS:=by (try dsimp only);(first|exact a8.out|exact a8.out.blk (KQ _ _ _ ao) (KQ _ _ _ aF) (KQ _ _ _ ax)|exact a9|exact a9.set ay an _)) fun a5=>?_;clear hK K));rotate_left 1;(focus (rw [if_pos (by rfl)];(first|(refine iI 37 70 (.tmp 45) rfl (.agg (qh ⟨ev,P.last,z.1,[]⟩ ⟨Y,V2,.slice a2 z.2.length c2⟩).toArray) rfl (qh ⟨ev,P.last,z.1,[]⟩ ⟨Y,V2,.slice a2 z.2.length c2⟩).toArray i0 (.agg Cd.toArray) underlying37 hi au (by rw [ac];decide) (by rw [ac];decide) (by rw [ac];exact vz (qh ⟨ev,P.last,z.1,[]⟩ ⟨Y,V2,.slice a2 z.2.length c2⟩) rfl) ?_)|(refine fo _ (.tmp 37) (.tmp 46) 37 rfl B 70 i0 (.agg Cd.toArray) 61 728 underlying37 hi au ac bb rfl (by decide) _ _ _ rfl (bF W.out.os Zb) ⟨wq.heap.size,0,none⟩ 1 1 (qh ⟨ev,P.last,z.1,[]⟩ ⟨Y,V2,.slice a2 z.2.length c2⟩) rfl rfl (fun j u h=>fO (w:=wq) rfl _ 70 j u h) (uY ev a2 z.2.length c2 W.out.wl ba.out) (by unfold maxLen;omega) (by omega) (by have:=W.out.pB;simp;omega) ?_;intro v6 J ad ab am;obtain ⟨a6,c6,e6,_⟩:=aE ad;subst e6;have a4:∀ b,b<wq.heap.size->(Value.slice av P.steps.length cv).ownBlock≠some b->J.heap[b]?=wq.heap[b]?:=(fun b hb aa=>(ab.block b (by simp;omega) (fun E=>aa E.symm)).trans ((KN ((KM wq.heap.size wq).alloc (KY _) _)).block b hb));have a3:J.heap[p]?=wq.heap[p]?:=(a4 p ao (fun E=>(af.out.1 p E).1 rfl));have hb6:J.heap[w.heap.size]?=wq.heap[w.heap.size]?:=(a4 _ (lt_of_block b9.out) (fun E=>af.out.2 _ E rfl));have aA:J.heap[nb]?=wq.heap[nb]?:=(a4 _ (lt_of_block aH.out) (fun E=>by have:=(af.out.1 _ E).2;have:=HD.out.nl;omega));have a9:=a8.out.blk a3 hb6 aA;have aS:=(Lg (w:=wq) (w':=J) (a:=⟨p,16,none⟩) a3).trans aS;have c3:p<J.heap.size:=lt_of_block (a3.trans W.out.bk);have b8:∀ n,J.frozen? ⟨p,n,none⟩=false:=(fun n=>az (a3.trans W.out.bk) n);have H6:=KL (And.intro ad (And.intro ab (And.intro am (And.intro a4 (And.intro a3 aA)))));clear ad ab am a4 hb6));refine Zk hK (hS:=by (try dsimp only);(first|exact a8.out|exact a8.out.blk (KQ _ _ _ ao) (KQ _ _ _ aF) (KQ _ _ _ ax)|exact a9|exact a9.set ay an _)) fun a5=>?_;clear hK K;refine Z1 4 (fun K hK=>?_);go_simp;refine Zk hK (hS:=by (try dsimp only);(first|exact a8.out|exact a8.out.blk (KQ _ _ _ ao) (KQ _ _ _ aF) (KQ _ _ _ ax)|exact a9|exact a9.set ay an _)) fun a5=>?_;clear hK K));rotate_left 1;(all_goals (refine Z1 14 (fun K hK=>?_);rw [if_pos (by rfl)];(first|(refine iI 37 70 (.tmp 45) rfl (.agg (qh ⟨ev,P.last,z.1,[]⟩ ⟨Y,V2,.slice a2 z.2.length c2⟩).toArray) rfl (qh ⟨ev,P.last,z.1,[]⟩ ⟨Y,V2,.slice a2 z.2.length c2⟩).toArray i0 (.agg Cd.toArray) underlying37 hi au (by rw [ac];decide) (by rw [ac];decide) (by rw [ac];exact vz (qh ⟨ev,P.last,z.1,[]⟩ ⟨Y,V2,.slice a2 z.2.length c2⟩) rfl) ?_)|(refine fo _ (.tmp 37) (.tmp 46) 37 rfl B 70 i0 (.agg Cd.toArray) 61 728 underlying37 hi au ac bb rfl (by decide) _ _ _ rfl (bF W.out.os Zb) ⟨wq.heap.size,0,none⟩ 1 1 (qh ⟨ev,P.last,z.1,[]⟩ ⟨Y,V2,.slice a2 z.2.length c2⟩) rfl rfl (fun j u h=>fO (w:=wq) rfl _ 70 j u h) (uY ev a2 z.2.length c2 W.out.wl ba.out) (by unfold maxLen;omega) (by omega) (by have:=W.out.pB;simp;omega) ?_;intro v6 J ad ab am;obtain ⟨a6,c6,e6,_⟩:=aE ad;subst e6;have a4:∀ b,b<wq.heap.size->(Value.slice av P.steps.length cv).ownBlock≠some b->J.heap[b]?=wq.heap[b]?:=(fun b hb aa=>(ab.block b (by simp;omega) (fun E=>aa E.symm)).trans ((KN ((KM wq.heap.size wq).alloc (KY _) _)).block b hb));have a3:J.heap[p]?=wq.heap[p]?:=(a4 p ao (fun E=>(af.out.1 p E).1 rfl));have hb6:J.heap[w.heap.size]?=wq.heap[w.heap.size]?:=(a4 _ (lt_of_block b9.out) (fun E=>af.out.2 _ E rfl));have aA:J.heap[nb]?=wq.heap[nb]?:=(a4 _ (lt_of_block aH.out) (fun E=>by have:=(af.out.1 _ E).2;have:=HD.out.nl;omega));have a9:=a8.out.blk a3 hb6 aA;have aS:=(Lg (w:=wq) (w':=J) (a:=⟨p,16,none⟩) a3).trans aS;have c3:p<J.heap.size:=lt_of_block (a3.trans W.out.bk);have b8:∀ n,J.frozen? ⟨p,n,none⟩=false:=(fun n=>az (a3.trans W.out.bk) n);have H6:=KL (And.intro ad (And.intro ab (And.intro am (And.intro a4 (And.intro a3 aA)))));clear ad ab am a4 hb6));refine Zk hK (hS:=by (try dsimp only);(first|exact a8.out|exact a8.out.blk (KQ _ _ _ ao) (KQ _ _ _ aF) (KQ _ _ _ ax)|exact a9|exact a9.set ay an _)) fun a5=>?_;clear hK K;refine dl 15 ?_;refine Z1 17 (fun K hK=>?_);go_simp;refine Zk hK (hS:=by (try dsimp only);(first|exact a8.out|exact a8.out.blk (KQ _ _ _ ao) (KQ _ _ _ aF) (KQ _ _ _ ax)|exact a9|exact a9.set ay an _)) fun a5=>?_;clear hK K));(all_goals refine Zd ?_)
   all_goals
    refine bA _ (fun w7 bj=>?_)
    have h6:=H6.out
    refine key a6 c6 w7 ⟨?_,?_,fun b hb aa bE=>?_,?_,fun b hb=>?_,?_⟩
    ·rw [bj];refine aZ h6.1 (fun b E=>KV _ _ _ _ (fun e2:b=p=>?_));subst e2;rcases h6.2.2.1 _ E with g|g
     ·exact (af.out.1 _ g).1 rfl
     ·simp at g;omega
    ·rw [bj];exact aR (a3.trans W.out.bk) _
    ·rw [bj];exact (KV _ _ _ _ bE).trans (h6.2.2.2.1 b hb aa)
    ·rw [bj];have:=h6.2.1.size;simp at this ⊢;omega
    ·exact Q149
    ·rw [bj];have g1:=cP (wr:=wq) (KN ((KM wq.heap.size wq).alloc (KY _) _)) (by omega) W.out.os h6.2.1;exact ((cd.out.mono (by omega)).trans g1).setCell bw _
  case jr2=>
   intro a6 c6 w7 bf;have ct:w7.heap[nb]?=some (.cells (dz z.1 V2).toArray 56 (0,0)):=(bf.fr nb ax (fun E=>by have:=(af.out.1 _ E).2;have:=HD.out.nl;omega) an).trans aH.out;have ca:=KL ct;have H7:=KL bf;have cl:=PG.stepped (N:=wb.heap.size) W.out bf ba.out bu.out ak (fun b E=>(af.out.1 b E).2) (fun b E=>(U.out.og.lt b E).2);have bd:=KL cl;have d3:=KL (bu.out.1);have ch:=Cm (A1:=c.cells++[.slice a6 (P.steps.length+1) c6]) (L:=dz P.last Y) (A3:=[vg]) bf.bk (n:=(dz z.1 V2).toArray.size) (by rw [jD];simp [jD]);have c7:=KL ch;clear ct bf cl ch a8 aS b8 hi au ac bb i0;go_wp2_with (first|(refine LO rfl 56 (.tmp 5) rfl nb rfl 56 (dz z.1 V2).toArray (0,0) _ ca.out underlying56 rfl (by kernel_rfl) ?_)|(refine wpList_store_mid rfl 56 (.tmp 53) (.tmp 51) rfl p 17 (dz z.1 V2).toArray rfl rfl c7.out (by kernel_rfl) (kH ba.out) ?_));refine bA _ (fun w8 cA=>?_);have bY:w8=w7.setCells p 17 (dz z.1 V2):=by rw [cA]
   rw [<- bY] at bd
   have ck:Below B w w8:=by rw [bY];exact kU bw _ _ _ H7.out.be
   obtain ⟨S8,bh⟩:∃ S8,S8=P.steps++[⟨ev,P.last,z.1,z.2⟩]:=⟨_,rfl⟩;obtain ⟨M8,bq⟩:∃ M8,M8=MS++[⟨Y,V2,.slice a2 z.2.length c2⟩]:=⟨_,rfl⟩;obtain ⟨v8,cy⟩:∃ v8,v8=Value.slice a6 (P.steps.length+1) c6:=⟨_,rfl⟩;rw [<- bh,<- bq,<- cy] at bd;have d5:=KL bh
   have co:∀ (w':World) (G:List Hd) (c4:Value),PG B p w' c ⟨S8,z.1,G⟩ V2 M8 v8 c4->dj (NP p v8 c4) w' 7 (.slice a2 z.2.length c2) (z.2.map Out.cells):=fun w' G c4 h=>by
    have h1:=(h.ws P.steps.length (by rw [bh];simp)).o;rw [bh,bq] at h1;simpa [h.ml,List.getD,bq,show MS.length=P.steps.length from cc.out.ml] using h1
   have d2:=KL co;obtain ⟨ag,cg,eg,_⟩:=aE bd.out.og;subst eg;have d6:=KL (show GvR B p w c S8 z.1 (P.given++oR (z.2.take 0)) V2 M8 v8 w8 from ⟨ck,ag,cg,by simpa [oR] using bd.out⟩)
   have d8:z.2.length<=maxLen:=by
    obtain ⟨_,_,E,g1,g2,_⟩:=d3.out;simp only [Value.slice.injEq,Lh] at E g1;omega
   have dq:z.2.length<=9223372036854775807:=by unfold maxLen at d8;omega
   have br:∀ Z,(P.given++oR (z.2.take Z)).length<=200000:=fun Z=>by
    have:=yO (O:=z.2) Z;have h1:=JO (X:=P.last) ev;rw [<- HR.out] at h1;rw [Ll];omega
   have cL:=KL br;clear cA bY ck bh bq cy co bd br ca H7 c7 ba bu W b9 aH bm c9 af cd bk a7 U an ay ao aF ax bw ak;go_loopw [8] (fun i wr=>∃ Z:Nat,Z<=z.2.length/\i=.int .i64 Z/\GvR B p w c S8 z.1 (P.given++oR (z.2.take Z)) V2 M8 v8 wr) (fun i _=>z.2.length - (intOf i).toNat)
   case atStart=>exact ⟨0,La _,rfl,d6.out⟩
   case round=>
    obtain ⟨Z,hk,rfl,hs⟩:=hrel;obtain ⟨bT,ag,cg,bc⟩:=hs;have HB:=KL bT;have br:=cL.out Z;obtain ⟨G,hG⟩:∃ G,G=P.given++oR (z.2.take Z):=⟨_,rfl⟩;rw [<- hG] at br bc;have U:=KL hG;have HQ:=KL bc;have d9:=d2.out wr _ _ bc;clear hG;have ds:=bT.size;have da:=lt_of_block bc.bk;have d7:=bc.pB;clear bT bc;rcases (show Z<z.2.length\/Z=z.2.length by omega) with aL|rfl
    ·have dk:(Z:Int)<(z.2.length:Int):=by omega
     have k0:(0:Int)<=(Z:Int):=by omega
     obtain ⟨⟨_,_,e1,_,_,_,q1⟩,q2⟩:=d9;simp only [Value.slice.injEq,Lh] at e1;obtain ⟨rfl,-,rfl⟩:=e1
     have aa:z.2.map Out.cells≠[]:=by intro E;have:=congrArg List.length E;simp at this;rw [this] at aL;simp at aL
     obtain ⟨b2,o2,rfl,hb2,q3⟩:=q1 aa;have dr:b2≠p:=(q2 b2 o2 _ _ rfl aa).1;have cr:(Value.slice ag G.length cg).ownBlock≠some b2:=(q2 b2 o2 _ _ rfl aa).2.2;have a0:=q3 Z 0 (by simpa using aL) (by omega);have a1:=q3 Z 1 (by simpa using aL) (by omega);have a2:=q3 Z 2 (by simpa using aL) (by omega);have bs:=Hl aL;rw [kP Out.cells aL Out.zero] at a0 a1 a2;obtain ⟨x,hx⟩:∃ x,x=z.2.getD Z Out.zero:=⟨_,rfl⟩;rw [<- hx] at a0 a1 a2 bs;obtain ⟨x0,x1,x2,x3,x4,x5,x6⟩:=x;simp only [Out.cells,Lb,Lc,Nat.add_zero] at a0 a1 a2 bs;have c8:=KL bs;clear hx bs q3 q2 q1 aa
     have c5:wr.cell? ⟨p,43,none⟩=some (.slice ag G.length cg):=by rw [ae HQ.out.bk 43];rfl
     have b8:∀ n,wr.frozen? ⟨p,n,none⟩=false:=fun n=>az HQ.out.bk n;obtain ⟨i0,hi,au,ac,bb⟩:=info_parts Gb;have cb:=KL (show wr.ownsRow B 111 2 (.slice ag G.length cg) G.length (G.map Hd.cells).flatten from HQ.out.og);have d4:=KL cr;clear cr;by_cases hx0:x0=1
     ·subst hx0;go_wp2_with fail;refine Zr (fun w':World=>w'.cell? ⟨b2,o2+Z*7+1,none⟩=some (.int .i64 x1)/\w'.cell? ⟨b2,o2+Z*7+2,none⟩=some (.int .i64 x2)) (fun a5=>?_);refine eY 0 ?_;refine eD 5 ?_;refine dl 13 ?_;refine Zt 15 ?_;refine Z2 4 16 (fun K hK=>?_) (fun K hK=>?_);(focus (go_simp;refine Zk hK fun a5=>?_;clear hK K;refine Z1 16 (fun K hK=>?_);go_simp;refine Zk hK fun a5=>?_;clear hK K));rotate_left 1;(focus (go_simp;refine Zk hK fun a5=>?_;clear hK K;refine Z1 4 (fun K hK=>?_);go_simp;refine Zk hK fun a5=>?_;clear hK K));rotate_left 1;(all_goals (refine Z1 17 (fun K hK=>?_);rw [if_pos (by rfl)];(refine fo _ (.tmp 70) (.tmp 82) 57 rfl B 111 i0 (.agg #[.int .i64 0,.int .i64 0]) 2 16 underlying57 hi au ac bb rfl (by decide) (.slice ag G.length cg) G.length _ rfl (bF cb.out (KN ((KM wr.heap.size wr).alloc (KY _) _))) ⟨wr.heap.size,0,none⟩ 1 1 (Hd.cells ⟨x1,x2⟩) rfl rfl (fun j u h=>fO (w:=wr) rfl _ 111 j u h) (hd_one _) (by unfold maxLen;omega) (by omega) (by simp;omega) ?_;intro v6 J ad ab am;obtain ⟨a6,c6,e6,_⟩:=aE ad;subst e6;have a4:∀ b,b<wr.heap.size->(Value.slice ag G.length cg).ownBlock≠some b->J.heap[b]?=wr.heap[b]?:=(fun b hb aa=>(ab.block b (by simp;omega) (fun E=>aa E.symm)).trans ((KN ((KM wr.heap.size wr).alloc (KY _) _)).block b hb));have a3:J.heap[p]?=wr.heap[p]?:=(a4 p da (fun E=>HQ.out.pg p E rfl));have hb6:J.heap[b2]?=wr.heap[b2]?:=(a4 _ hb2 d4.out);have a1:=(Lg (w:=wr) (w':=J) (a:=⟨b2,o2+Z*7+1,none⟩) hb6).trans a1;have a2:=(Lg (w:=wr) (w':=J) (a:=⟨b2,o2+Z*7+2,none⟩) hb6).trans a2;have c5:=(Lg (w:=wr) (w':=J) (a:=⟨p,43,none⟩) a3).trans c5;have b8:∀ n,J.frozen? ⟨p,n,none⟩=false:=(fun n=>az (a3.trans HQ.out.bk) n);have c3:p<J.heap.size:=lt_of_block (a3.trans HQ.out.bk);have H6:=KL (And.intro ad (And.intro ab (And.intro am (And.intro a4 a3))));clear ad ab am a4 hb6 a3);refine Zk hK fun a5=>?_;clear hK K;refine dl 18 ?_;refine Z1 20 (fun K hK=>?_);go_simp;refine Zk hK fun a5=>?_;clear hK K));(all_goals refine Zd ?_)
      all_goals
       have cm:=(HB.out.trans (cP (wr:=wr) (KN ((KM wr.heap.size wr).alloc (KY _) _)) (by omega) cb.out H6.out.2.1)).setCell (p:=⟨p,43,none⟩) d7 (Value.slice a6 (G.length+1) c6)
       have cn:PG B p (J.setCell ⟨p,43,none⟩ (Value.slice a6 (G.length+1) c6)) c ⟨S8,z.1,G++[⟨x1,x2⟩]⟩ V2 M8 v8 (Value.slice a6 (G.length+1) c6):=by
        have h6:=H6.out
        have an:∀ b,(Value.slice a6 (G.length+1) c6).ownBlock=some b->b≠p:=fun b E e2=>by
         subst e2;rcases h6.2.2.1 _ E with g|g
         ·exact HQ.out.pg _ g rfl
         ·simp at g;omega
        refine PG.gave (P:=⟨S8,z.1,G⟩) HQ.out (aZ h6.1 (fun b E=>KV _ _ _ _ (an b E))) (aR (h6.2.2.2.2.trans HQ.out.bk) _) (fun b hb aa bE=>(KV _ _ _ _ bE).trans (h6.2.2.2.1 b hb aa)) (by have:=h6.2.1.size;simp at this ⊢;omega) (fun b hb=>?_);exact Q149
       have cS:=KL (show P.given++oR (z.2.take (Z+1))=G++[⟨x1,x2⟩] by rw [c8.out,U.out,List.append_assoc];simp)
       have d0:=KL cm
       have d1:=KL cn
       clear cm cn c5 b8 a1 a2
       go_wp2
       go_roundw
       case rel=>exact ⟨Z+1,by omega,by go_num,d0.out,a6,c6,by rw [cS.out,Ll];exact d1.out⟩
       case measure=>simp [intOf];omega
     ·go_wp2;go_roundw
      case rel=>exact ⟨Z+1,by omega,by go_num,HB.out,ag,cg,by rw [c8.out,if_neg hx0,List.append_nil,<- U.out];exact HQ.out⟩
      case measure=>simp [intOf];omega
    ·have de:¬ (z.2.length:Int)<(z.2.length:Int):=by omega
     go_wp2;refine LN (v:=.bool true) ?_ rfl ?_
     ·simp [results,results11,go_sem]
     ·refine ⟨V2,M8,v8,.slice ag G.length cg,rfl,?_,HB.out⟩;have h1:=HQ.out;have h2:=U.out;rw [List.take_length] at h2
      have h3:(⟨S8,z.1,G⟩:mc)=tX P ev:=by rw [d5.out,h2];unfold tX;rw [HR.out]
      rw [h3] at h1;exact h1
end
end Go.Proofs.YtennppmadmgfoaaGreatDoor
