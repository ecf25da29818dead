/- Texts of the row's proof. Conditions: none. -/
import Derived.Great.BuildSlice
import Derived.Test.YtocbhafgjepnjaaGreatK41
namespace Go.Proofs.YtocbhafgjepnjaaGreat
set_option maxRecDepth 100000
set_option maxHeartbeats 8000000
section
open Go.RowKit
theorem Q168 {p:Prop} (h:p:=by
 rcases h6.2.2.1 b hb with g|g
 ·exact Or.inl g
 ·exact Or.inr (by simp at g;omega)):p:=h
theorem Q172 {p:Prop} (h:p:=by
 rw [← hnb] at hwz hD ⊢;exact key nb V2 a2 c2 wz (by rw [hwz];exact hD)):p:=h
theorem lK {w:World} {p:Nat} {A L C:List Value} {T:TypeId} {fr:Nat×Nat} (h:w.heap[p]?=some (.cells (A++(L++C)).toArray T fr)):w.rangeAt p A.length L:=by
 intro j u hj
 have hl:j<L.length:=by
  exact Q150
 rw [aa h,Io,IS (by omega),Nat.add_sub_cancel_left,IR hl,hj]
theorem pO {w:World} {p:Nat} {c:Cf} {vs vg:Value} {X:Wd} {V:Vs} {T:TypeId} {fr:Nat×Nat} (h:w.heap[p]?=some (.cells (CU c vs X V vg).toArray T fr)):w.rangeAt p 17 (cQ X V):=
 lK (A:=c.cells++[vs]) (C:=[vg]) (T:=T) (fr:=fr) (by rw [h];simp [CU])
theorem nd {w:World} {p:Nat} {L:List Value} {T:TypeId} {fr:Nat×Nat} (h:w.heap[p]?=some (.cells L.toArray T fr)):w.rangeAt p 0 L:=
 lK (A:=[]) (C:=[]) (T:=T) (fr:=fr) (by rw [h];simp)
theorem join5 {α β γ δ:Type} {P F:α→β→γ→δ→World→Prop} {T:Prop} (h:(∀ a b c d w,F a b c d w→P a b c d w)→T) (key:∀ a b c d w,F a b c d w→P a b c d w):T:=h key
structure DidW (wb wz:World) (Y:Wd) (O:List Out) (nb:Nat) (V2:Vs) (a2:Option Addr) (c2:Nat):Prop where
 be:Below wb.heap.size wb wz
 bk:wz.heap[nb]?=some (.cells (cQ Y V2).toArray 54 (0,0))
 nl:wb.heap.size≤nb
 wk:WK (fun b=>wb.heap.size≤b∧b≠nb) wz Y V2
 ro:cZ (fun b=>wb.heap.size≤b∧b≠nb) wz 7 (.slice a2 O.length c2) (O.map Out.cells)
theorem DidW.fst {wb w2:World} {Y:Wd} {O:List Out} {V2:Vs} {a2:Option Addr} {c2:Nat} (hb:Below wb.heap.size wb w2) (hk:WK (fun b=>wb.heap.size≤b) w2 Y V2) (hr:aM wb.heap.size w2 7 (.slice a2 O.length c2) (O.map Out.cells)) :
  DidW wb ((w2.alloc (.cells bQ 54 (0,0))).setRow w2.heap.size (cQ Y V2).toArray) Y O w2.heap.size V2 a2 c2:=by
 have hs:w2.heap.size≤((w2.alloc (.cells bQ 54 (0,0))).setRow w2.heap.size (cQ Y V2).toArray).heap.size:=by simp [World.setRow]
 have kp:∀ b,b<w2.heap.size→((w2.alloc (.cells bQ 54 (0,0))).setRow w2.heap.size (cQ Y V2).toArray).heap[b]?=w2.heap[b]?:=fun b h=>(setRow_other _ _ _ _ (by omega)).trans (If _ _ _ h)
 refine ⟨aQ (hb.alloc hb.size _) hb.size,aX (au _ rfl),hb.size,?_,?_⟩
 ·exact (hk.imp (K':=fun b=>wb.heap.size≤b∧b≠w2.heap.size) (fun b h1 h2=>⟨h2,by omega⟩)).keep hs (fun b h _=>kp b h)
 ·exact bG (bR (K':=fun b=>wb.heap.size≤b∧b≠w2.heap.size) (eC hr) (fun b h1 h2=>⟨h2,by omega⟩)) hs (fun b h _=>kp b h)
theorem DidW.snd {wb w2:World} {Y:Wd} {O:List Out} {V2:Vs} {a2:Option Addr} {c2:Nat} (hb:Below wb.heap.size wb w2) (hx:w2.heap[wb.heap.size]?=some (.cells bQ 54 (0,0))) (hk:WK (fun b=>wb.heap.size+1≤b) w2 Y V2) (hr:aM (wb.heap.size+1) w2 7 (.slice a2 O.length c2) (O.map Out.cells)) :
  DidW wb (w2.setRow wb.heap.size (cQ Y V2).toArray) Y O wb.heap.size V2 a2 c2:=by
 have hs:w2.heap.size≤(w2.setRow wb.heap.size (cQ Y V2).toArray).heap.size:=by simp [World.setRow]
 have kp:∀ b,b≠wb.heap.size→(w2.setRow wb.heap.size (cQ Y V2).toArray).heap[b]?=w2.heap[b]?:=fun b h=>setRow_other _ _ _ _ h
 refine ⟨aQ hb (Ij _),aX hx,Ij _,?_,?_⟩
 ·exact (hk.imp (K':=fun b=>wb.heap.size≤b∧b≠wb.heap.size) (fun b h1 h2=>⟨by omega,by omega⟩)).keep hs (fun b _ h=>kp b h.2)
 ·exact bG (bR (K':=fun b=>wb.heap.size≤b∧b≠wb.heap.size) (eC hr) (fun b h1 h2=>⟨by omega,by omega⟩)) hs (fun b _ h=>kp b h.2)
theorem ph {P:Program} {ops:Array Oper} {S:World→Prop} {op:Oper} {a:Act} (hw:Region.wanted op (yielded ops a.tmps)=true) (t:TypeId) (parts:Array (Nat×Operand)) (ho:op.op=.build t parts) (arr:Array Value)
  (hb:P.built t (parts.map fun (i,x)=>(i,a.eval x)).toList=some arr):YieldsIf P ops S op (.agg arr) a:=
 .inl ⟨hw,fun w _=>by
  unfold execOp;simp only [ho,Sem.run_bind,run_build w t _ arr hb,Result.andThen_ok]
  rfl⟩
theorem oy {P:Program} {ops:Array Oper} {S:World→Prop} {op:Oper} {a:Act} (hw:Region.wanted op (yielded ops a.tmps)=true) (t:TypeId) (x0 x1 x2 x3:Operand) (ho:op.op=.build t #[(0,x0),(1,x1),(2,x2),(3,x3)]) (v0 v1 v2 v3:Value)
  (h0:a.eval x0=v0) (h1:a.eval x1=v1) (h2:a.eval x2=v2) (h3:a.eval x3=v3) (arr:Array Value) (hb:P.built t [(0,v0),(1,v1),(2,v2),(3,v3)]=some arr):YieldsIf P ops S op (.agg arr) a:=
 ph hw t _ ho arr (by simp only [List.map_toArray,List.map_cons,List.map_nil,h0,h1,h2,h3];exact hb)
theorem iq {P:Program} {o:Oper} {a:Act} {w:World} {K:Act→World→Prop} {Q:Exit→Act→World→Prop} (t e:TypeId) (x:Operand) (ho:o.op=.buildSlice t 1 #[(0,x)]) (v:Value) (hx:a.eval x=v)
  (cells:Array Value) (ie:TypeInfo) (z:Value) (hu:P.underlying t=some (.slice e)) (hie:P.info? e=some ie) (hz:ie.zero=some z) (hsmall:¬ 1*ie.size > 2 ^ 24) (hpos:¬ 1*ie.size=0)
  (hf:Instr.fill (fun i=>some (i*ie.size,ie.size)) ((Array.range (1*ie.size)).map (z.cells[· % z.cells.size]!)) [(0,v)]=some cells)
  (h:K (a.put o.dst (.slice (some ⟨w.heap.size,0,none⟩) 1 1)) (w.alloc (.cells cells e))):o.wp P a w K Q:=
 wp_buildSlice t e 1 _ ho cells ie z hu hie hz hsmall hpos (by simp only [List.map_toArray,List.map_cons,List.map_nil,hx];exact hf) h
def Ag:List Value:=Ev.zero.cells++(bQ.toList++(bQ.toList++[.slice none 0 0]))
theorem DE:(Tryz.prog.info? 62).map (fun i=>(i.zero,i.size,i.bytes))=some (some (.agg Ag.toArray),61,728):=by kernel_rfl
theorem Ek (ev:Ev) (X:Wd) (V:Vs) (Y:Wd) (V2:Vs) (a:Option Addr) (n c:Nat):Tryz.prog.built 62 [(0,.agg (Ev.cells ev).toArray),(1,.agg (cQ X V).toArray),(2,.agg (cQ Y V2).toArray),(3,.slice a n c)]=some (Ev.cells ev++(cQ X V++(cQ Y V2++[Value.slice a n c]))).toArray:=by kernel_rfl
theorem tZ (arr:List Value) (h:arr.length=61):Instr.fill (fun i=>some (i*61,61)) ((Array.range (1*61)).map ((Value.agg Ag.toArray).cells[· % (Value.agg Ag.toArray).cells.size]!)) [(0,.agg arr.toArray)]=some arr.toArray:=by
 have hz:((Array.range (1*61)).map ((Value.agg Ag.toArray).cells[· % (Value.agg Ag.toArray).cells.size]!)).size=61:=by simp
 have:=Great.fill_whole (s:=61) (by decide) [.agg arr.toArray] ((Array.range (1*61)).map ((Value.agg Ag.toArray).cells[· % (Value.agg Ag.toArray).cells.size]!)) (by intro v hv;simp at hv;subst hv;simpa [Value.cells] using h) (by rw [hz];rfl);simpa [Value.cells] using this
def RgS (p be nb:Nat) (L1 L2 L3:List Value) (w:World):Prop:=w.rangeAt p 17 L1∧w.rangeAt be 0 L2∧w.rangeAt nb 0 L3
theorem fM {w w':World} {b o:Nat} {L:List Value} (h:w.rangeAt b o L) (hb:w'.heap[b]?=w.heap[b]?):w'.rangeAt b o L:=fun j v hj=>(Ip (w:=w) (w':=w') (a:=⟨b,o+j,none⟩) hb).trans (h j v hj)
theorem RgS.blk {p be nb:Nat} {L1 L2 L3:List Value} {w w':World} (h:RgS p be nb L1 L2 L3 w) (h1:w'.heap[p]?=w.heap[p]?) (h2:w'.heap[be]?=w.heap[be]?) (h3:w'.heap[nb]?=w.heap[nb]?):RgS p be nb L1 L2 L3 w':=⟨fM h.1 h1,fM h.2.1 h2,fM h.2.2 h3⟩
theorem RgS.set {p be nb:Nat} {L1 L2 L3:List Value} {w:World} (h:RgS p be nb L1 L2 L3 w) (h2:be≠p) (h3:nb≠p) (u:Value):RgS p be nb L1 L2 L3 (w.setCell ⟨p,16,none⟩ u):=
 ⟨fun j v hj=>(ic (by omega)).trans (h.1 j v hj),fM h.2.1 (Ii _ _ _ _ h2),fM h.2.2 (Ii _ _ _ _ h3)⟩
theorem tN {K K':Nat→Prop} {w w':World} (ev:Ev) {X:Wd} {V:Vs} {Y:Wd} {V2:Vs} (a:Option Addr) (n c:Nat) (h:WK K w X V) (k:WK K' w' Y V2):∀ u∈lc ⟨ev,X,Y,[]⟩ ⟨V,V2,.slice a n c⟩,u.oneCell'=true:=by
 intro u hu;have h1:=kj h;have h2:=kj k;rw [Array.all_eq_true_iff_forall_mem] at h1 h2;unfold lc at hu;rcases List.mem_append.1 hu with hu|hu
 ·simp [Ev.cells] at hu;rcases hu with rfl|rfl|rfl|rfl|rfl|rfl|rfl|rfl<;>rfl
 ·rcases List.mem_append.1 hu with hu|hu
  ·exact h1 u (by simpa using hu)
  ·rcases List.mem_append.1 hu with hu|hu
   ·exact h2 u (by simpa using hu)
   ·simp at hu;subst hu
    rfl
theorem join3 {α β:Type} {P F:α→β→World→Prop} {T:Prop} (h:(∀ a b w,F a b w→P a b w)→T) (key:∀ a b w,F a b w→P a b w):T:=h key
structure DidS (B p:Nat) (w wq w7:World) (c:Cf) (P:kY) (VL:Vs) (MS:List Ms) (av:Option Addr) (cv:Nat) (vg:Value) (news:List Value) (a6:Option Addr) (c6:Nat):Prop where
 ow:w7.ownsRow B 62 61 (.slice a6 (P.steps.length+1) c6) (P.steps.length+1) ((oA P MS).flatten++news)
 bk:w7.heap[p]?=some (.cells (CU c (.slice a6 (P.steps.length+1) c6) P.last VL vg).toArray 57 (0,0))
 fr:∀ b,b<wq.heap.size→(Value.slice av P.steps.length cv).ownBlock≠some b→b≠p→w7.heap[b]?=wq.heap[b]?
 sz:wq.heap.size≤w7.heap.size
 nw:∀ b,(Value.slice a6 (P.steps.length+1) c6).ownBlock=some b→(Value.slice av P.steps.length cv).ownBlock=some b∨wq.heap.size≤b
 be:Below B w w7
theorem lm {b:Nat} {T:TypeId} {fr:Nat×Nat} {A3:List Value}:∀ (L L0 A1:List Value) (w:World),w.heap[b]?=some (.cells (A1++(L0++A3)).toArray T fr)→L0.length=L.length→(w.setCells b A1.length L).heap[b]?=some (.cells (A1++(L++A3)).toArray T fr)
 | [],L0,A1,w,h,hl=>by
  have:L0=[]:=List.length_eq_zero_iff.1 hl;subst this;exact h
 | v :: L,[],A1,w,h,hl=>by simp at hl
 | v :: L,x :: L0,A1,w,h,hl=>by
  have h1:=aP h v (j:=A1.length);have e:(A1++(x :: L0++A3)).toArray.setIfInBounds A1.length v=(A1++[v]++(L0++A3)).toArray:=by simp
  rw [e] at h1;have h2:=lm L L0 (A1++[v]) (w.setCell ⟨b,A1.length,none⟩ v) h1 (by simpa using hl);have e2:(A1++[v]).length=A1.length+1:=by simp
  rw [e2] at h2;show ((w.setCell ⟨b,A1.length,none⟩ v).setCells b (A1.length+1) L).heap[b]?=_
  rw [h2];simp
theorem fu {b g:Nat} (h:b≠g):∀ (L:List Value) (o:Nat) (w:World),(w.setCells g o L).heap[b]?=w.heap[b]?
 | [],_,_=>rfl
 | _ :: L,o,_=>(fu h L (o+1) _).trans (Ii _ _ _ _ h)
theorem ld {g:Nat}:∀ (L:List Value) (o:Nat) (w:World),(w.setCells g o L).heap.size=w.heap.size
 | [],_,_=>rfl
 | _ :: L,o,_=>(ld L (o+1) _).trans (by simp)
theorem kC {B g:Nat} {a:World} (hg:B≤g):∀ (L:List Value) (o:Nat) (w:World),Below B a w→Below B a (w.setCells g o L)
 | [],_,_,h=>h
 | _ :: L,o,_,h=>kC hg L (o+1) _ (h.setCell hg _)
theorem Ap {w:World} {p:Nat} {A1 L A3:List Value} {T:TypeId} (h:w.heap[p]?=some (.cells (A1++(L++A3)).toArray T (0,0))) {n:Nat} (hn:n=L.length):w.there p A1.length n:=by
 intro j hj;refine ⟨?_,ap h _⟩;rw [lK h j (L[j]'(by omega)) (Is (by omega))]
 rfl
theorem sx {α:Type} (L:List α) (x d:α) (i:Nat) (h:i<L.length+1):(L++[x]).getD i d=if i<L.length then L.getD i d else x:=by
 by_cases g:i<L.length
 ·rw [if_pos g];simp only [List.getD];rw [IR g]
 ·rw [if_neg g];simp only [List.getD];rw [IS (by omega)];have:i - L.length=0:=by omega
  rw [this]
  rfl
theorem PG.stepped {B p N nb:Nat} {w wq w7:World} {c:Cf} {P:kY} {VL V2:Vs} {MS:List Ms} {av a2 a6:Option Addr} {cv c2 c6:Nat} {vg:Value} {ev:Ev} {Y:Wd} {O:List Out}
  (h:PG B p wq c P VL MS (.slice av P.steps.length cv) vg) (hS:DidS B p w wq w7 c P VL MS av cv vg (lc ⟨ev,P.last,Y,[]⟩ ⟨VL,V2,.slice a2 O.length c2⟩) a6 c6)
  (hW:WK (fun b=>N≤b∧b≠nb) wq Y V2) (hR:cZ (fun b=>N≤b∧b≠nb) wq 7 (.slice a2 O.length c2) (O.map Out.cells)) (hp:p<N)
  (hs:∀ b,(Value.slice av P.steps.length cv).ownBlock=some b→b<N) (hg:∀ b,vg.ownBlock=some b→b<N) :
  PG B p (w7.setCells p 17 (cQ Y V2)) c ⟨P.steps++[⟨ev,P.last,Y,O⟩],Y,P.given⟩ V2 (MS++[⟨VL,V2,.slice a2 O.length c2⟩]) (.slice a6 (P.steps.length+1) c6) vg:=by
 have lpq:=lt_of_block h.bk
 have hsz:wq.heap.size≤(w7.setCells p 17 (cQ Y V2)).heap.size:=by rw [ld];exact hS.sz
 have ownp:∀ b,(Value.slice a6 (P.steps.length+1) c6).ownBlock=some b→b≠p:=fun b e=>by
  rcases hS.nw b e with g|g
  ·exact (h.ps b g).1
  ·omega
 have kp:∀ b,b<wq.heap.size→NP p (.slice av P.steps.length cv) vg b→(w7.setCells p 17 (cQ Y V2)).heap[b]?=wq.heap[b]?:=fun b h1 h2=>(fu h2.1 _ _ _).trans (hS.fr b h1 h2.2.1 h2.1)
 have np:∀ b,b<wq.heap.size→NP p (.slice av P.steps.length cv) vg b→NP p (.slice a6 (P.steps.length+1) c6) vg b:=fun b h1 h2=>⟨h2.1,fun e=>by
  rcases hS.nw b e with g|g
  ·exact h2.2.1 g
  ·omega,h2.2.2⟩
 have nn:∀ b,b<wq.heap.size→(N≤b∧b≠nb)→NP p (.slice av P.steps.length cv) vg b:=fun b _ h2=>⟨by omega,fun e=>by have:=hs b e;omega,fun e=>by have:=hg b e;omega⟩
 have mr:∀ {sz:Nat} {v:Value} {L:List (List Value)},cZ (NP p (.slice av P.steps.length cv) vg) wq sz v L→cZ (NP p (.slice a6 (P.steps.length+1) c6) vg) (w7.setCells p 17 (cQ Y V2)) sz v L:=fun r=>
  bR (bG (bR (K':=fun b=>NP p (.slice av P.steps.length cv) vg b∧b<wq.heap.size) r (fun b hb h=>⟨h,hb⟩)) hsz (fun b h1 h2=>kp b h1 h2.1)) (fun b _ h=>np b h.2 h.1)
 have mv:∀ {X:Wd} {V:Vs},WK (NP p (.slice av P.steps.length cv) vg) wq X V→WK (NP p (.slice a6 (P.steps.length+1) c6) vg) (w7.setCells p 17 (cQ Y V2)) X V:=fun q=>
  ((q.imp (K':=fun b=>NP p (.slice av P.steps.length cv) vg b∧b<wq.heap.size) (fun b hb h=>⟨h,hb⟩)).keep hsz (fun b h1 h2=>kp b h1 h2.1)).imp (fun b _ h=>np b h.2 h.1)
 have hWn:=(hW.imp nn)
 have hRn:=bR hR nn
 have hfl:(oA ⟨P.steps++[⟨ev,P.last,Y,O⟩],Y,P.given⟩ (MS++[⟨VL,V2,.slice a2 O.length c2⟩])).flatten=(oA P MS).flatten++lc ⟨ev,P.last,Y,[]⟩ ⟨VL,V2,.slice a2 O.length c2⟩:=by
  unfold oA;simp only;rw [List.zipWith_append (by rw [h.ml])];simp
  rfl
 refine ⟨?_,?_,?_,h.pB,fun b e=>⟨ownp b e,fun g=>?_⟩,h.pg,by simp [h.ml],?_,fun i hi=>?_⟩
 ·have:=lm (b:=p) (A3:=[vg]) (cQ Y V2) (cQ P.last VL) (c.cells++[.slice a6 (P.steps.length+1) c6]) w7 hS.bk (by rw [fH,fH]);exact this
 ·show World.ownsRow _ _ _ _ _ (P.steps++[_]).length _
  rw [hfl,It];exact aY hS.ow (fun b e=>fu (ownp b e) _ _ _)
 ·refine aY h.og (fun b e=>(fu (h.pg b e) _ _ _).trans (hS.fr b (h.og.lt b e).2 (fun g=>(h.ps b g).2 e) (h.pg b e)))
 ·rcases hS.nw b e with k|k
  ·exact (h.ps b k).2 g
  ·have:=(h.og.lt b g).2;omega
 ·exact mv hWn
 ·have hi':i<P.steps.length+1:=by simpa using hi
  have hi2:i<MS.length+1:=by rw [h.ml];exact hi'
  show StW _ _ ((P.steps++[_]).getD i Stp.zero) ((MS++[_]).getD i Ms.zero)
  rw [sx _ _ _ _ hi',sx _ _ _ _ hi2,h.ml];by_cases g:i<P.steps.length
  ·rw [if_pos g,if_pos g];have:=h.ws i g;exact ⟨mv this.b,mv this.a,mr this.o⟩
  ·rw [if_neg g,if_neg g];exact ⟨mv h.wl,mv hWn,mr hRn⟩
theorem EB {O:List Out} {k:Nat} (h:k<O.length):nG (O.take (k+1))=nG (O.take k)++(if (O.getD k Out.zero).kind=1 then [⟨(O.getD k Out.zero).slot,(O.getD k Out.zero).gen⟩] else []):=by
 unfold nG;rw [Ir h,List.filter_append,IH,aK h];by_cases g:O[k].kind=1
 ·rw [if_pos g];simp [g]
 ·rw [if_neg g];simp [g]
theorem GX {X:Wd} (e:Ev):(nG (ib X e).2).length≤1:=by
 exact Q57
theorem wZ {O:List Out} (k:Nat):(nG (O.take k)).length≤(nG O).length:=by
 unfold nG;rw [Iq,Iq];exact ((List.take_sublist k O).filter _).length_le
theorem PG.gave {B p:Nat} {w w8:World} {c:Cf} {P:kY} {VL:Vs} {MS:List Ms} {vs:Value} {ag a8:Option Addr} {cg c8:Nat} {hd:Hd} (h:PG B p w c P VL MS vs (.slice ag P.given.length cg))
  (ow:w8.ownsRow B 110 2 (.slice a8 (P.given.length+1) c8) (P.given.length+1) ((P.given.map Hd.cells).flatten++Hd.cells hd)) (bk:w8.heap[p]?=some (.cells (CU c vs P.last VL (.slice a8 (P.given.length+1) c8)).toArray 57 (0,0)))
  (fr:∀ b,b<w.heap.size→(Value.slice ag P.given.length cg).ownBlock≠some b→b≠p→w8.heap[b]?=w.heap[b]?) (sz:w.heap.size≤w8.heap.size) (nw:∀ b,(Value.slice a8 (P.given.length+1) c8).ownBlock=some b→(Value.slice ag P.given.length cg).ownBlock=some b∨w.heap.size≤b) :
  PG B p w8 c ⟨P.steps,P.last,P.given++[hd]⟩ VL MS vs (.slice a8 (P.given.length+1) c8):=by
 have lp:=lt_of_block h.bk
 have kp:∀ b,b<w.heap.size→NP p vs (.slice ag P.given.length cg) b→w8.heap[b]?=w.heap[b]?:=fun b h1 h2=>fr b h1 h2.2.2 h2.1
 have np:∀ b,b<w.heap.size→NP p vs (.slice ag P.given.length cg) b→NP p vs (.slice a8 (P.given.length+1) c8) b:=fun b h1 h2=>⟨h2.1,h2.2.1,fun e=>by
  rcases nw b e with g|g
  ·exact h2.2.2 g
  ·omega⟩
 have mr:∀ {sz:Nat} {v:Value} {L:List (List Value)},cZ (NP p vs (.slice ag P.given.length cg)) w sz v L→cZ (NP p vs (.slice a8 (P.given.length+1) c8)) w8 sz v L:=fun r=>
  bR (bG (bR (K':=fun b=>NP p vs (.slice ag P.given.length cg) b∧b<w.heap.size) r (fun b hb h=>⟨h,hb⟩)) sz (fun b h1 h2=>kp b h1 h2.1)) (fun b _ h=>np b h.2 h.1)
 have mv:∀ {X:Wd} {V:Vs},WK (NP p vs (.slice ag P.given.length cg)) w X V→WK (NP p vs (.slice a8 (P.given.length+1) c8)) w8 X V:=fun q=>
  ((q.imp (K':=fun b=>NP p vs (.slice ag P.given.length cg) b∧b<w.heap.size) (fun b hb h=>⟨h,hb⟩)).keep sz (fun b h1 h2=>kp b h1 h2.1)).imp (fun b _ h=>np b h.2 h.1)
 have og':∀ b,(Value.slice a8 (P.given.length+1) c8).ownBlock=some b→b≠p:=fun b e=>by
  rcases nw b e with g|g
  ·exact h.pg b g
  ·omega
 refine ⟨bk,aY h.os (fun b e=>fr b (h.os.lt b e).2 (fun g=>(h.ps b e).2 g) (h.ps b e).1),?_,h.pB,fun b e=>⟨(h.ps b e).1,fun g=>?_⟩,og',h.ml,mv h.wl,fun i hi=>?_⟩
 ·show World.ownsRow _ _ _ _ _ (P.given++[hd]).length ((P.given++[hd]).map Hd.cells).flatten
  rw [It,IH,IC];simpa using ow
 ·rcases nw b g with k|k
  ·exact (h.ps b e).2 k
  ·have:=(h.os.lt b e).2;omega
 ·have:=h.ws i hi;exact ⟨mv this.b,mv this.a,mr this.o⟩
theorem DI:(Tryz.prog.info? 110).map (fun i=>(i.zero,i.size,i.bytes))=some (some (.agg #[.int .i64 0,.int .i64 0]),2,16):=by kernel_rfl
theorem hd_one (x:Hd):∀ u∈Hd.cells x,u.oneCell'=true:=by
 intro u hu;simp [Hd.cells] at hu;rcases hu with rfl|rfl<;>rfl
def GvR (B p:Nat) (w:World) (c:Cf) (S:List Stp) (X:Wd) (G:List Hd) (V:Vs) (M:List Ms) (vs:Value) (wr:World):Prop:=Below B w wr∧∃ a n,PG B p wr c ⟨S,X,G⟩ V M vs (.slice a G.length n)
def zW (B p:Nat) (w:World) (c:Cf) (P:kY) (e:Ending) (w':World):Prop:=∃ VL MS vs vg,e=.returned (.bool true)∧PG B p w' c P VL MS vs vg∧Below B w w'
theorem pR {B p:Nat} {w:World} {c:Cf} {P:kY} {VL:Vs} {MS:List Ms} {vs vg:Value} (h:PG B p w c P VL MS vs vg) (hok:zU c P) (ev:Ev) (he:EvGood ev) (hn:P.steps.length≤100000) (hgl:P.given.length≤P.steps.length) :
  Calls Tryz.prog 27 #[.pointer (some ⟨p,0,none⟩),.agg (Ev.cells ev).toArray] w (zW B p w c (sE P ev)):=by
 have HOk:=Ib hok
 have HE:=Ib he
 have HP:=Ib h
 have hp:=lt_of_block h.bk
 obtain ⟨R,hR⟩:∃ R,R=ib P.last ev:=⟨_,rfl⟩
 have HR:=Ib hR
 have hmy:EvMay P.last ev:=he.may (by have:=hok.nw;omega)
 have HMy:=Ib hmy
 obtain ⟨EA,hEA⟩:∃ EA,EA=(Ev.cells ev).toArray:=⟨_,rfl⟩
 rw [← hEA]
 have HEA:=Ib hEA
 clear h hok he hR hmy hEA
 go_enter Tryz.func27,Tryz.ntmps27
 go_wp2_with fail
 refine aW _ (fun wb hwb=>?_)
 have bwb:Below w.heap.size w wb:=by rw [hwb];exact (Ic _ _).alloc (Ij _) _
 have hbe:wb.heap[w.heap.size]?=some (.cells (Ev.cells ev).toArray 59 (0,0)):=by rw [hwb,← HEA.out];exact au _ rfl
 have HG:=Ib (HP.out.below bwb)
 have HBe:=Ib hbe
 have HBw:=Ib bwb
 have hpb:p<wb.heap.size:=by have:=bwb.size;omega
 have lbe:=lt_of_block hbe
 have HP0:=HP
 clear hwb bwb hbe HP
 refine join5 (P:=?jP1) (F:=fun nb V2 a2 c2 wz=>DidW wb wz R.1 R.2 nb V2 a2 c2) (fun key=>?jm1) ?jr1
 case jm1=>
  refine Zr (fun w':World=>w'.heap[p]?=some (.cells (CU c vs P.last VL vg).toArray 57 (0,0))∧w'.heap[w.heap.size]?=some (.cells (Ev.cells ev).toArray 59 (0,0))) (fun hHeld=>?_) (by (try dsimp only);(first|exact ⟨HG.out.bk,HBe.out⟩|exact hk3|exact ⟨(If _ _ _ hpb).trans HG.out.bk,(If _ _ _ lbe).trans HBe.out⟩|exact ⟨(If _ _ _ (by omega)).trans hk3.1,(If _ _ _ (by omega)).trans hk3.2⟩|exact ⟨aZ ((If _ _ _ (by omega)).trans hk3.1) (by omega),aZ ((If _ _ _ (by omega)).trans hk3.2) (by omega)⟩|exact ⟨aZ hk3.1 (by omega),aZ hk3.2 (by omega)⟩));refine dd 0 ?_;refine Zt 2 ?_;refine Zw 3 ?_ (hy:=yieldsIf_load_mid (by rfl) 54 (.tmp 12) rfl p 17 rfl (cQ P.last VL) _ (fun _ hw'=>pO hw'.1) Tryz.underlying54 rfl (by kernel_rfl));refine Zw 4 ?_ (hy:=yieldsIf_load_mid (by rfl) 59 (.tmp 3) rfl w.heap.size 0 rfl (Ev.cells ev) _ (fun _ hw'=>nd hw'.2) Tryz.underlying59 rfl (by kernel_rfl));refine Z2 5 10 (fun K hK=>?_) (fun K hK=>?_);(focus (go_simp;(go_at_call 24;refine (zo (WA.below HG.out.wl.wa Zb) HOk.out.wd ev HE.out.ok HMy.out).mono ?_;rw [← HR.out];rintro e w2 ⟨V2,a2,c2,rfl,hk2,hr2,hb2⟩;have hz2:=hb2.size;(try simp at hz2);have hk3:w2.heap[p]?=some (.cells (CU c vs P.last VL vg).toArray 57 (0,0))∧w2.heap[w.heap.size]?=some (.cells (Ev.cells ev).toArray 59 (0,0)):=(by first|exact ⟨ai hb2 HG.out.bk hpb,ai hb2 HBe.out lbe⟩|exact ⟨ai hb2 ((heap_alloc_old _ _ hpb).trans HG.out.bk) (by simp;omega),ai hb2 ((heap_alloc_old _ _ lbe).trans HBe.out) (by simp;omega)⟩);(try (have bxb:=ai hb2 (cE wb _) (dL wb _)));(try dsimp only));(try go_wp2_with fail);refine Zk hK (hS:=by (try dsimp only);(first|exact ⟨HG.out.bk,HBe.out⟩|exact hk3|exact ⟨(If _ _ _ hpb).trans HG.out.bk,(If _ _ _ lbe).trans HBe.out⟩|exact ⟨(If _ _ _ (by omega)).trans hk3.1,(If _ _ _ (by omega)).trans hk3.2⟩|exact ⟨aZ ((If _ _ _ (by omega)).trans hk3.1) (by omega),aZ ((If _ _ _ (by omega)).trans hk3.2) (by omega)⟩|exact ⟨aZ hk3.1 (by omega),aZ hk3.2 (by omega)⟩)) fun hHeld=>?_;clear hK K;refine eP 6 ?_;refine Z1 10 (fun K hK=>?_);go_simp;refine Zk hK (hS:=by (try dsimp only);(first|exact ⟨HG.out.bk,HBe.out⟩|exact hk3|exact ⟨(If _ _ _ hpb).trans HG.out.bk,(If _ _ _ lbe).trans HBe.out⟩|exact ⟨(If _ _ _ (by omega)).trans hk3.1,(If _ _ _ (by omega)).trans hk3.2⟩|exact ⟨aZ ((If _ _ _ (by omega)).trans hk3.1) (by omega),aZ ((If _ _ _ (by omega)).trans hk3.2) (by omega)⟩|exact ⟨aZ hk3.1 (by omega),aZ hk3.2 (by omega)⟩)) fun hHeld=>?_;clear hK K));rotate_left 1;(focus (go_simp;refine Zk hK (hS:=by (try dsimp only);(first|exact ⟨HG.out.bk,HBe.out⟩|exact hk3|exact ⟨(If _ _ _ hpb).trans HG.out.bk,(If _ _ _ lbe).trans HBe.out⟩|exact ⟨(If _ _ _ (by omega)).trans hk3.1,(If _ _ _ (by omega)).trans hk3.2⟩|exact ⟨aZ ((If _ _ _ (by omega)).trans hk3.1) (by omega),aZ ((If _ _ _ (by omega)).trans hk3.2) (by omega)⟩|exact ⟨aZ hk3.1 (by omega),aZ hk3.2 (by omega)⟩)) fun hHeld=>?_;clear hK K;refine Z1 5 (fun K hK=>?_);go_simp;(go_at_call 24;refine (zo (WA.below HG.out.wl.wa Zb) HOk.out.wd ev HE.out.ok HMy.out).mono ?_;rw [← HR.out];rintro e w2 ⟨V2,a2,c2,rfl,hk2,hr2,hb2⟩;have hz2:=hb2.size;(try simp at hz2);have hk3:w2.heap[p]?=some (.cells (CU c vs P.last VL vg).toArray 57 (0,0))∧w2.heap[w.heap.size]?=some (.cells (Ev.cells ev).toArray 59 (0,0)):=(by first|exact ⟨ai hb2 HG.out.bk hpb,ai hb2 HBe.out lbe⟩|exact ⟨ai hb2 ((heap_alloc_old _ _ hpb).trans HG.out.bk) (by simp;omega),ai hb2 ((heap_alloc_old _ _ lbe).trans HBe.out) (by simp;omega)⟩);(try (have bxb:=ai hb2 (cE wb _) (dL wb _)));(try dsimp only));(try go_wp2_with fail);refine Zk hK (hS:=by (try dsimp only);(first|exact ⟨HG.out.bk,HBe.out⟩|exact hk3|exact ⟨(If _ _ _ hpb).trans HG.out.bk,(If _ _ _ lbe).trans HBe.out⟩|exact ⟨(If _ _ _ (by omega)).trans hk3.1,(If _ _ _ (by omega)).trans hk3.2⟩|exact ⟨aZ ((If _ _ _ (by omega)).trans hk3.1) (by omega),aZ ((If _ _ _ (by omega)).trans hk3.2) (by omega)⟩|exact ⟨aZ hk3.1 (by omega),aZ hk3.2 (by omega)⟩)) fun hHeld=>?_;clear hK K;refine eP 6 ?_));rotate_left 1;(all_goals (refine Z1 11 (fun K hK=>?_);rw [if_pos (by rfl)];(first|(refine IQ 54 (.tmp 5) (.tmp 16) rfl w2.heap.size (cQ R.1 V2).toArray rfl rfl 54 bQ (au _ rfl) (by kernel_rfl) rfl (kj hk2) ?_)|(refine IQ 54 (.tmp 5) (.tmp 16) rfl wb.heap.size (cQ R.1 V2).toArray rfl rfl 54 bQ bxb (by kernel_rfl) rfl (kj hk2) ?_));refine Zk hK (hS:=by (try dsimp only);(first|exact ⟨HG.out.bk,HBe.out⟩|exact hk3|exact ⟨(If _ _ _ hpb).trans HG.out.bk,(If _ _ _ lbe).trans HBe.out⟩|exact ⟨(If _ _ _ (by omega)).trans hk3.1,(If _ _ _ (by omega)).trans hk3.2⟩|exact ⟨aZ ((If _ _ _ (by omega)).trans hk3.1) (by omega),aZ ((If _ _ _ (by omega)).trans hk3.2) (by omega)⟩|exact ⟨aZ hk3.1 (by omega),aZ hk3.2 (by omega)⟩)) fun hHeld=>?_;clear hK K;refine dd 12 ?_));(all_goals refine Zd ?_)
  ·refine aW _ (fun wz hwz=>?_);have hD:=DidW.fst (wb:=wb) (Ig (Id (Ic _ _)) (hb2.mono (by simp))) hk2 hr2;obtain ⟨nb,hnb⟩:∃ nb,nb=w2.heap.size:=⟨_,rfl⟩;exact Q172
  ·refine aW _ (fun wz hwz=>?_);have hD:=DidW.snd (wb:=wb) (Ig (Id ((Ic _ _).alloc (Ij _) _)) (hb2.mono (by simp))) bxb (hk2.imp (fun b _ h=>by simpa using h)) (aE hr2 (by simp));obtain ⟨nb,hnb⟩:∃ nb,nb=wb.heap.size:=⟨_,rfl⟩;exact Q172
 case jr1=>
  intro nb V2 a2 c2 wz hD;have HD:=Ib hD;obtain ⟨aT,cT,eT,_⟩:=aj hD.wk.ro.ta.1
  have htl:(R.1.tab.length:Int)=c.flows:=by
   have h1:=(zM HOk.out.wd HMy.out).gw.tl;have h2:=Eb P.last ev;rw [← HR.out] at h1 h2;rw [h1,h2,HOk.out.cf]
  have HGz:=Ib (HG.out.below hD.be);have hbe':=ai hD.be HBe.out lbe;have lz:=hD.be.size
  have x0:wz.cell? ⟨p,0,none⟩=some (.int .i64 (R.1.tab.length:Int)):=by rw [aa HGz.out.bk 0,htl];rfl
  have n17:wz.cell? ⟨nb,17,none⟩=some (.slice aT R.1.tab.length cT):=by rw [← eT];rw [aa hD.bk 17];rfl
  have lnb:=lt_of_block hD.bk;have lpz:=lt_of_block HGz.out.bk;have lbz:=lt_of_block hbe';have HBz:=Ib hbe';clear hD eT htl hbe' lbe;go_wp2_with fail;go_quiet (fail);go_wp2_with fail;refine aW _ (fun wq hwq=>?_)
  have bzq:Below wz.heap.size wz wq:=by rw [hwq];exact (by repeat (first|exact Ic _ _|refine aI ?_|refine Id ?_))
  have HGq:=Ib (HGz.out.below bzq);obtain ⟨av,cv,ev_,_⟩:=aB HGq.out.os;have HBq:=Ib (ai bzq HBz.out lbz);have HNq:=Ib (ai bzq HD.out.bk lnb);have hwk:=HD.out.wk.keep bzq.size (fun b h _=>bzq.block b h);have HWq:=Ib hwk;have HRq:=Ib (bG HD.out.ro bzq.size (fun b h _=>bzq.block b h))
  have x16:wq.cell? ⟨p,16,none⟩=some (.slice av P.steps.length cv):=by rw [← ev_];rw [aa HGq.out.bk 16];rfl
  have xfp:∀ n,wq.frozen? ⟨p,n,none⟩=false:=fun n=>ap HGq.out.bk n;have lpq:=lt_of_block HGq.out.bk;have lbq:=lt_of_block HBq.out;have lnq:=lt_of_block HNq.out;have hbn:w.heap.size≠p:=by omega
  have hnp:nb≠p:=by have:=HD.out.nl;omega
  have HS0:=Ib (show RgS p w.heap.size nb (cQ P.last VL) (Ev.cells ev) (cQ R.1 V2) wq from ⟨pO HGq.out.bk,nd HBq.out,nd HNq.out⟩);have hps:∀ b,vs.ownBlock=some b→b≠p∧b<wb.heap.size:=fun b e=>⟨(HG.out.ps b e).1,(HG.out.os.lt b e).2⟩
  have hpe:∀ b,vs.ownBlock=some b→b≠w.heap.size:=fun b e=>by have:=(HP0.out.os.lt b e).2;omega
  have HPs:=Ib (And.intro hps hpe);have HWw:=Ib (show Below w.heap.size w wq from (HBw.out.trans (HD.out.be.mono HBw.out.size)).trans (bzq.mono (IG HBw.out.size HD.out.be.size)));subst ev_;obtain ⟨i0,hi,hi0,hi1,hi2⟩:=info_parts DE;clear hwq bzq hwk x0 n17 lpz lbz lnb lz hps hpe;have hBp:=HGq.out.pB;refine join3 (P:=?jP2) (F:=fun a6 c6 w7=>DidS B p w wq w7 c P VL MS av cv vg (lc ⟨ev,P.last,R.1,[]⟩ ⟨VL,V2,.slice a2 R.2.length c2⟩) a6 c6) (fun key=>?jm2) ?jr2
  case jm2=>
   refine Zr (RgS p w.heap.size nb (cQ P.last VL) (Ev.cells ev) (cQ R.1 V2)) (fun hHeld=>?_) (by (try dsimp only);(first|exact HS0.out|exact HS0.out.blk (If _ _ _ lpq) (If _ _ _ lbq) (If _ _ _ lnq)|exact HS6|exact HS6.set hbn hnp _));refine eP 0 ?_;refine Zw 5 ?_ (hy:=yieldsIf_load_mid (by rfl) 59 (.tmp 3) rfl w.heap.size 0 rfl (Ev.cells ev) _ (fun _ hw'=>hw'.2.1) Tryz.underlying59 rfl (by kernel_rfl));refine dd 6 ?_;refine Zt 8 ?_;refine Zw 9 ?_ (hy:=yieldsIf_load_mid (by rfl) 54 (.tmp 41) rfl p 17 rfl (cQ P.last VL) _ (fun _ hw'=>hw'.1) Tryz.underlying54 rfl (by kernel_rfl));refine Zw 10 ?_ (hy:=yieldsIf_load_mid (by rfl) 54 (.tmp 5) rfl nb 0 rfl (cQ R.1 V2) _ (fun _ hw'=>hw'.2.2) Tryz.underlying54 rfl (by kernel_rfl));refine Zt 11 ?_;refine Zw 12 ?_ (hy:=oy (by rfl) 62 (.tmp 38) (.tmp 42) (.tmp 43) (.tmp 44) rfl _ _ _ _ rfl rfl rfl rfl _ (Ek ev P.last VL R.1 V2 a2 R.2.length c2));refine Z2 4 13 (fun K hK=>?_) (fun K hK=>?_);(focus (go_simp;refine Zk hK (hS:=by (try dsimp only);(first|exact HS0.out|exact HS0.out.blk (If _ _ _ lpq) (If _ _ _ lbq) (If _ _ _ lnq)|exact HS6|exact HS6.set hbn hnp _)) fun hHeld=>?_;clear hK K;refine Z1 13 (fun K hK=>?_);rw [if_pos (by rfl)];(first|(refine iq 35 62 (.tmp 45) rfl (.agg (lc ⟨ev,P.last,R.1,[]⟩ ⟨VL,V2,.slice a2 R.2.length c2⟩).toArray) rfl (lc ⟨ev,P.last,R.1,[]⟩ ⟨VL,V2,.slice a2 R.2.length c2⟩).toArray i0 (.agg Ag.toArray) Tryz.underlying35 hi hi0 (by rw [hi1];decide) (by rw [hi1];decide) (by rw [hi1];exact tZ (lc ⟨ev,P.last,R.1,[]⟩ ⟨VL,V2,.slice a2 R.2.length c2⟩) rfl) ?_)|(refine eW _ (.tmp 37) (.tmp 46) 35 rfl B 62 i0 (.agg Ag.toArray) 61 728 Tryz.underlying35 hi hi0 hi1 hi2 rfl (by decide) _ _ _ rfl (bA HGq.out.os Zb) ⟨wq.heap.size,0,none⟩ 1 1 (lc ⟨ev,P.last,R.1,[]⟩ ⟨VL,V2,.slice a2 R.2.length c2⟩) rfl rfl (fun j u h=>fC (w:=wq) rfl _ 62 j u h) (tN ev a2 R.2.length c2 HGq.out.wl HWq.out) (by unfold maxLen;omega) (by omega) (by have:=HGq.out.pB;simp;omega) ?_;intro v6 w6 hown6 hgr6 hnew6;obtain ⟨a6,c6,e6,_⟩:=aB hown6;subst e6;have hk6:∀ b,b<wq.heap.size→(Value.slice av P.steps.length cv).ownBlock≠some b→w6.heap[b]?=wq.heap[b]?:=(fun b hb hne=>(hgr6.block b (by simp;omega) (fun e=>hne e.symm)).trans ((Id ((Ic wq.heap.size wq).alloc (Ij _) _)).block b hb));have hp6:w6.heap[p]?=wq.heap[p]?:=(hk6 p lpq (fun e=>(HPs.out.1 p e).1 rfl));have hb6:w6.heap[w.heap.size]?=wq.heap[w.heap.size]?:=(hk6 _ (lt_of_block HBq.out) (fun e=>HPs.out.2 _ e rfl));have hn6:w6.heap[nb]?=wq.heap[nb]?:=(hk6 _ (lt_of_block HNq.out) (fun e=>by have:=(HPs.out.1 _ e).2;have:=HD.out.nl;omega));have HS6:=HS0.out.blk hp6 hb6 hn6;have x16:=(Ip (w:=wq) (w':=w6) (a:=⟨p,16,none⟩) hp6).trans x16;have lp6:p<w6.heap.size:=lt_of_block (hp6.trans HGq.out.bk);have xfp:∀ n,w6.frozen? ⟨p,n,none⟩=false:=(fun n=>ap (hp6.trans HGq.out.bk) n);have H6:=Ib (And.intro hown6 (And.intro hgr6 (And.intro hnew6 (And.intro hk6 (And.intro hp6 hn6)))));clear hown6 hgr6 hnew6 hk6 hb6));refine Zk hK (hS:=by (try dsimp only);(first|exact HS0.out|exact HS0.out.blk (If _ _ _ lpq) (If _ _ _ lbq) (If _ _ _ lnq)|exact HS6|exact HS6.set hbn hnp _)) fun hHeld=>?_;clear hK K));rotate_left 1;(focus (rw [if_pos (by rfl)];(first|(refine iq 35 62 (.tmp 45) rfl (.agg (lc ⟨ev,P.last,R.1,[]⟩ ⟨VL,V2,.slice a2 R.2.length c2⟩).toArray) rfl (lc ⟨ev,P.last,R.1,[]⟩ ⟨VL,V2,.slice a2 R.2.length c2⟩).toArray i0 (.agg Ag.toArray) Tryz.underlying35 hi hi0 (by rw [hi1];decide) (by rw [hi1];decide) (by rw [hi1];exact tZ (lc ⟨ev,P.last,R.1,[]⟩ ⟨VL,V2,.slice a2 R.2.length c2⟩) rfl) ?_)|(refine eW _ (.tmp 37) (.tmp 46) 35 rfl B 62 i0 (.agg Ag.toArray) 61 728 Tryz.underlying35 hi hi0 hi1 hi2 rfl (by decide) _ _ _ rfl (bA HGq.out.os Zb) ⟨wq.heap.size,0,none⟩ 1 1 (lc ⟨ev,P.last,R.1,[]⟩ ⟨VL,V2,.slice a2 R.2.length c2⟩) rfl rfl (fun j u h=>fC (w:=wq) rfl _ 62 j u h) (tN ev a2 R.2.length c2 HGq.out.wl HWq.out) (by unfold maxLen;omega) (by omega) (by have:=HGq.out.pB;simp;omega) ?_;intro v6 w6 hown6 hgr6 hnew6;obtain ⟨a6,c6,e6,_⟩:=aB hown6;subst e6;have hk6:∀ b,b<wq.heap.size→(Value.slice av P.steps.length cv).ownBlock≠some b→w6.heap[b]?=wq.heap[b]?:=(fun b hb hne=>(hgr6.block b (by simp;omega) (fun e=>hne e.symm)).trans ((Id ((Ic wq.heap.size wq).alloc (Ij _) _)).block b hb));have hp6:w6.heap[p]?=wq.heap[p]?:=(hk6 p lpq (fun e=>(HPs.out.1 p e).1 rfl));have hb6:w6.heap[w.heap.size]?=wq.heap[w.heap.size]?:=(hk6 _ (lt_of_block HBq.out) (fun e=>HPs.out.2 _ e rfl));have hn6:w6.heap[nb]?=wq.heap[nb]?:=(hk6 _ (lt_of_block HNq.out) (fun e=>by have:=(HPs.out.1 _ e).2;have:=HD.out.nl;omega));have HS6:=HS0.out.blk hp6 hb6 hn6;have x16:=(Ip (w:=wq) (w':=w6) (a:=⟨p,16,none⟩) hp6).trans x16;have lp6:p<w6.heap.size:=lt_of_block (hp6.trans HGq.out.bk);have xfp:∀ n,w6.frozen? ⟨p,n,none⟩=false:=(fun n=>ap (hp6.trans HGq.out.bk) n);have H6:=Ib (And.intro hown6 (And.intro hgr6 (And.intro hnew6 (And.intro hk6 (And.intro hp6 hn6)))));clear hown6 hgr6 hnew6 hk6 hb6));refine Zk hK (hS:=by (try dsimp only);(first|exact HS0.out|exact HS0.out.blk (If _ _ _ lpq) (If _ _ _ lbq) (If _ _ _ lnq)|exact HS6|exact HS6.set hbn hnp _)) fun hHeld=>?_;clear hK K;refine Z1 4 (fun K hK=>?_);go_simp;refine Zk hK (hS:=by (try dsimp only);(first|exact HS0.out|exact HS0.out.blk (If _ _ _ lpq) (If _ _ _ lbq) (If _ _ _ lnq)|exact HS6|exact HS6.set hbn hnp _)) fun hHeld=>?_;clear hK K));rotate_left 1;(all_goals (refine Z1 14 (fun K hK=>?_);rw [if_pos (by rfl)];(first|(refine iq 35 62 (.tmp 45) rfl (.agg (lc ⟨ev,P.last,R.1,[]⟩ ⟨VL,V2,.slice a2 R.2.length c2⟩).toArray) rfl (lc ⟨ev,P.last,R.1,[]⟩ ⟨VL,V2,.slice a2 R.2.length c2⟩).toArray i0 (.agg Ag.toArray) Tryz.underlying35 hi hi0 (by rw [hi1];decide) (by rw [hi1];decide) (by rw [hi1];exact tZ (lc ⟨ev,P.last,R.1,[]⟩ ⟨VL,V2,.slice a2 R.2.length c2⟩) rfl) ?_)|(refine eW _ (.tmp 37) (.tmp 46) 35 rfl B 62 i0 (.agg Ag.toArray) 61 728 Tryz.underlying35 hi hi0 hi1 hi2 rfl (by decide) _ _ _ rfl (bA HGq.out.os Zb) ⟨wq.heap.size,0,none⟩ 1 1 (lc ⟨ev,P.last,R.1,[]⟩ ⟨VL,V2,.slice a2 R.2.length c2⟩) rfl rfl (fun j u h=>fC (w:=wq) rfl _ 62 j u h) (tN ev a2 R.2.length c2 HGq.out.wl HWq.out) (by unfold maxLen;omega) (by omega) (by have:=HGq.out.pB;simp;omega) ?_;intro v6 w6 hown6 hgr6 hnew6;obtain ⟨a6,c6,e6,_⟩:=aB hown6;subst e6;have hk6:∀ b,b<wq.heap.size→(Value.slice av P.steps.length cv).ownBlock≠some b→w6.heap[b]?=wq.heap[b]?:=(fun b hb hne=>(hgr6.block b (by simp;omega) (fun e=>hne e.symm)).trans ((Id ((Ic wq.heap.size wq).alloc (Ij _) _)).block b hb));have hp6:w6.heap[p]?=wq.heap[p]?:=(hk6 p lpq (fun e=>(HPs.out.1 p e).1 rfl));have hb6:w6.heap[w.heap.size]?=wq.heap[w.heap.size]?:=(hk6 _ (lt_of_block HBq.out) (fun e=>HPs.out.2 _ e rfl));have hn6:w6.heap[nb]?=wq.heap[nb]?:=(hk6 _ (lt_of_block HNq.out) (fun e=>by have:=(HPs.out.1 _ e).2;have:=HD.out.nl;omega));have HS6:=HS0.out.blk hp6 hb6 hn6;have x16:=(Ip (w:=wq) (w':=w6) (a:=⟨p,16,none⟩) hp6).trans x16;have lp6:p<w6.heap.size:=lt_of_block (hp6.trans HGq.out.bk);have xfp:∀ n,w6.frozen? ⟨p,n,none⟩=false:=(fun n=>ap (hp6.trans HGq.out.bk) n);have H6:=Ib (And.intro hown6 (And.intro hgr6 (And.intro hnew6 (And.intro hk6 (And.intro hp6 hn6)))));clear hown6 hgr6 hnew6 hk6 hb6));refine Zk hK (hS:=by (try dsimp only);(first|exact HS0.out|exact HS0.out.blk (If _ _ _ lpq) (If _ _ _ lbq) (If _ _ _ lnq)|exact HS6|exact HS6.set hbn hnp _)) fun hHeld=>?_;clear hK K;refine dd 15 ?_;refine Z1 17 (fun K hK=>?_);go_simp;refine Zk hK (hS:=by (try dsimp only);(first|exact HS0.out|exact HS0.out.blk (If _ _ _ lpq) (If _ _ _ lbq) (If _ _ _ lnq)|exact HS6|exact HS6.set hbn hnp _)) fun hHeld=>?_;clear hK K));(all_goals refine Zd ?_)
   all_goals
    refine aW _ (fun w7 hw7=>?_)
    have h6:=H6.out
    refine key a6 c6 w7 ⟨?_,?_,fun b hb hne hbp=>?_,?_,fun b hb=>?_,?_⟩
    ·rw [hw7];refine aY h6.1 (fun b e=>Ii _ _ _ _ (fun e2:b=p=>?_));subst e2;rcases h6.2.2.1 _ e with g|g
     ·exact (HPs.out.1 _ g).1 rfl
     ·simp at g;omega
    ·rw [hw7];exact aP (hp6.trans HGq.out.bk) _
    ·rw [hw7];exact (Ii _ _ _ _ hbp).trans (h6.2.2.2.1 b hb hne)
    ·rw [hw7];have:=h6.2.1.size;simp at this ⊢;omega
    ·exact Q168
    ·rw [hw7];have g1:=cG (wr:=wq) (Id ((Ic wq.heap.size wq).alloc (Ij _) _)) (by omega) HGq.out.os h6.2.1;exact ((HWw.out.mono (by omega)).trans g1).setCell hBp _
  case jr2=>
   intro a6 c6 w7 hS7;have hn7:w7.heap[nb]?=some (.cells (cQ R.1 V2).toArray 54 (0,0)):=(hS7.fr nb lnq (fun e=>by have:=(HPs.out.1 _ e).2;have:=HD.out.nl;omega) hnp).trans HNq.out;have HN7:=Ib hn7;have H7:=Ib hS7;have hPG:=PG.stepped (N:=wb.heap.size) HGq.out hS7 HWq.out HRq.out hpb (fun b e=>(HPs.out.1 b e).2) (fun b e=>(HG.out.og.lt b e).2);have HPG:=Ib hPG;have HO2:=Ib (HRq.out.1);have h17:=Ap (A1:=c.cells++[.slice a6 (P.steps.length+1) c6]) (L:=cQ P.last VL) (A3:=[vg]) hS7.bk (n:=(cQ R.1 V2).toArray.size) (by rw [fH];simp [fH]);have H17:=Ib h17;clear hn7 hS7 hPG h17 HS0 x16 xfp hi hi0 hi1 hi2 i0;go_wp2_with (first|(refine t7 rfl 54 (.tmp 5) rfl nb rfl 54 (cQ R.1 V2).toArray (0,0) _ HN7.out Tryz.underlying54 rfl (by kernel_rfl) ?_)|(refine wpList_store_mid rfl 54 (.tmp 53) (.tmp 51) rfl p 17 (cQ R.1 V2).toArray rfl rfl H17.out (by kernel_rfl) (kj HWq.out) ?_));refine aW _ (fun w8 hw8=>?_);have hw8':w8=w7.setCells p 17 (cQ R.1 V2):=by rw [hw8]
   rw [← hw8'] at HPG
   have hB8:Below B w w8:=by rw [hw8'];exact kC hBp _ _ _ H7.out.be
   obtain ⟨S8,hS8⟩:∃ S8,S8=P.steps++[⟨ev,P.last,R.1,R.2⟩]:=⟨_,rfl⟩;obtain ⟨M8,hM8⟩:∃ M8,M8=MS++[⟨VL,V2,.slice a2 R.2.length c2⟩]:=⟨_,rfl⟩;obtain ⟨v8,hv8⟩:∃ v8,v8=Value.slice a6 (P.steps.length+1) c6:=⟨_,rfl⟩;rw [← hS8,← hM8,← hv8] at HPG;have HS8:=Ib hS8
   have hla:∀ (w':World) (G:List Hd) (vg':Value),PG B p w' c ⟨S8,R.1,G⟩ V2 M8 v8 vg'→cZ (NP p v8 vg') w' 7 (.slice a2 R.2.length c2) (R.2.map Out.cells):=fun w' G vg' h=>by
    have h1:=(h.ws P.steps.length (by rw [hS8];simp)).o;rw [hS8,hM8] at h1;simpa [h.ml,List.getD,hM8,show MS.length=P.steps.length from HP0.out.ml] using h1
   have HLA:=Ib hla;obtain ⟨ag,cg,eg,_⟩:=aB HPG.out.og;subst eg;have HV0:=Ib (show GvR B p w c S8 R.1 (P.given++nG (R.2.take 0)) V2 M8 v8 w8 from ⟨hB8,ag,cg,by simpa [nG] using HPG.out⟩)
   have hmax:R.2.length≤maxLen:=by
    obtain ⟨_,_,e,g1,g2,_⟩:=HO2.out;simp only [Value.slice.injEq,Iq] at e g1;omega
   have hmax2:R.2.length≤9223372036854775807:=by unfold maxLen at hmax;omega
   have hac:∀ k,(P.given++nG (R.2.take k)).length≤200000:=fun k=>by
    have:=wZ (O:=R.2) k;have h1:=GX (X:=P.last) ev;rw [← HR.out] at h1;rw [It];omega
   have HAC:=Ib hac;clear hw8 hw8' hB8 hS8 hM8 hv8 hla HPG hac HN7 H7 H17 HWq HRq HGq HBq HNq HGz HBz HPs HWw HBw HBe HG hnp hbn lpq lbq lnq hBp hpb;go_loopw [8] (fun i wr=>∃ k:Nat,k≤R.2.length∧i=.int .i64 k∧GvR B p w c S8 R.1 (P.given++nG (R.2.take k)) V2 M8 v8 wr) (fun i _=>R.2.length - (intOf i).toNat)
   case atStart=>exact ⟨0,Ik _,rfl,HV0.out⟩
   case round=>
    obtain ⟨k,hk,rfl,hs⟩:=hrel;obtain ⟨hbr,ag,cg,hpg⟩:=hs;have HB:=Ib hbr;have hac:=HAC.out k;obtain ⟨G,hG⟩:∃ G,G=P.given++nG (R.2.take k):=⟨_,rfl⟩;rw [← hG] at hac hpg;have HG:=Ib hG;have HQ:=Ib hpg;have hrow:=HLA.out wr _ _ hpg;clear hG;have hzr:=hbr.size;have lpr:=lt_of_block hpg.bk;have hBr:=hpg.pB;clear hbr hpg;rcases (show k<R.2.length∨k=R.2.length by omega) with hlt|rfl
    ·have hlt':(k:Int)<(R.2.length:Int):=by omega
     have k0:(0:Int)≤(k:Int):=by omega
     obtain ⟨⟨_,_,e1,_,_,_,q1⟩,q2⟩:=hrow;simp only [Value.slice.injEq,Iq] at e1;obtain ⟨rfl,-,rfl⟩:=e1
     have hne:R.2.map Out.cells≠[]:=by intro e;have:=congrArg List.length e;simp at this;rw [this] at hlt;simp at hlt
     obtain ⟨b2,o2,rfl,hb2,q3⟩:=q1 hne;have hn2:b2≠p:=(q2 b2 o2 _ _ rfl hne).1;have hn3:(Value.slice ag G.length cg).ownBlock≠some b2:=(q2 b2 o2 _ _ rfl hne).2.2;have a0:=q3 k 0 (by simpa using hlt) (by omega);have a1:=q3 k 1 (by simpa using hlt) (by omega);have a2:=q3 k 2 (by simpa using hlt) (by omega);have hat:=EB hlt;rw [jq Out.cells hlt Out.zero] at a0 a1 a2;obtain ⟨x,hx⟩:∃ x,x=R.2.getD k Out.zero:=⟨_,rfl⟩;rw [← hx] at a0 a1 a2 hat;obtain ⟨x0,x1,x2,x3,x4,x5,x6⟩:=x;simp only [Out.cells,Il,Im,Nat.add_zero] at a0 a1 a2 hat;have HAT:=Ib hat;clear hx hat q3 q2 q1 hne
     have x43:wr.cell? ⟨p,43,none⟩=some (.slice ag G.length cg):=by rw [aa HQ.out.bk 43];rfl
     have xfp:∀ n,wr.frozen? ⟨p,n,none⟩=false:=fun n=>ap HQ.out.bk n;obtain ⟨i0,hi,hi0,hi1,hi2⟩:=info_parts DI;have HOG:=Ib (show wr.ownsRow B 110 2 (.slice ag G.length cg) G.length (G.map Hd.cells).flatten from HQ.out.og);have HQ2:=Ib hn3;clear hn3;by_cases hx0:x0=1
     ·subst hx0;go_wp2_with fail;refine Zr (fun w':World=>w'.cell? ⟨b2,o2+k*7+1,none⟩=some (.int .i64 x1)∧w'.cell? ⟨b2,o2+k*7+2,none⟩=some (.int .i64 x2)) (fun hHeld=>?_);refine eP 0 ?_;refine eB 5 ?_;refine dd 13 ?_;refine Zt 15 ?_;refine Z2 4 16 (fun K hK=>?_) (fun K hK=>?_);(focus (go_simp;refine Zk hK fun hHeld=>?_;clear hK K;refine Z1 16 (fun K hK=>?_);go_simp;refine Zk hK fun hHeld=>?_;clear hK K));rotate_left 1;(focus (go_simp;refine Zk hK fun hHeld=>?_;clear hK K;refine Z1 4 (fun K hK=>?_);go_simp;refine Zk hK fun hHeld=>?_;clear hK K));rotate_left 1;(all_goals (refine Z1 17 (fun K hK=>?_);rw [if_pos (by rfl)];(refine eW _ (.tmp 70) (.tmp 82) 55 rfl B 110 i0 (.agg #[.int .i64 0,.int .i64 0]) 2 16 Tryz.underlying55 hi hi0 hi1 hi2 rfl (by decide) (.slice ag G.length cg) G.length _ rfl (bA HOG.out (Id ((Ic wr.heap.size wr).alloc (Ij _) _))) ⟨wr.heap.size,0,none⟩ 1 1 (Hd.cells ⟨x1,x2⟩) rfl rfl (fun j u h=>fC (w:=wr) rfl _ 110 j u h) (hd_one _) (by unfold maxLen;omega) (by omega) (by simp;omega) ?_;intro v6 w6 hown6 hgr6 hnew6;obtain ⟨a6,c6,e6,_⟩:=aB hown6;subst e6;have hk6:∀ b,b<wr.heap.size→(Value.slice ag G.length cg).ownBlock≠some b→w6.heap[b]?=wr.heap[b]?:=(fun b hb hne=>(hgr6.block b (by simp;omega) (fun e=>hne e.symm)).trans ((Id ((Ic wr.heap.size wr).alloc (Ij _) _)).block b hb));have hp6:w6.heap[p]?=wr.heap[p]?:=(hk6 p lpr (fun e=>HQ.out.pg p e rfl));have hb6:w6.heap[b2]?=wr.heap[b2]?:=(hk6 _ hb2 HQ2.out);have a1:=(Ip (w:=wr) (w':=w6) (a:=⟨b2,o2+k*7+1,none⟩) hb6).trans a1;have a2:=(Ip (w:=wr) (w':=w6) (a:=⟨b2,o2+k*7+2,none⟩) hb6).trans a2;have x43:=(Ip (w:=wr) (w':=w6) (a:=⟨p,43,none⟩) hp6).trans x43;have xfp:∀ n,w6.frozen? ⟨p,n,none⟩=false:=(fun n=>ap (hp6.trans HQ.out.bk) n);have lp6:p<w6.heap.size:=lt_of_block (hp6.trans HQ.out.bk);have H6:=Ib (And.intro hown6 (And.intro hgr6 (And.intro hnew6 (And.intro hk6 hp6))));clear hown6 hgr6 hnew6 hk6 hb6 hp6);refine Zk hK fun hHeld=>?_;clear hK K;refine dd 18 ?_;refine Z1 20 (fun K hK=>?_);go_simp;refine Zk hK fun hHeld=>?_;clear hK K));(all_goals refine Zd ?_)
      all_goals
       have hgr:=(HB.out.trans (cG (wr:=wr) (Id ((Ic wr.heap.size wr).alloc (Ij _) _)) (by omega) HOG.out H6.out.2.1)).setCell (p:=⟨p,43,none⟩) hBr (Value.slice a6 (G.length+1) c6)
       have hgv:PG B p (w6.setCell ⟨p,43,none⟩ (Value.slice a6 (G.length+1) c6)) c ⟨S8,R.1,G++[⟨x1,x2⟩]⟩ V2 M8 v8 (Value.slice a6 (G.length+1) c6):=by
        have h6:=H6.out
        have hnp:∀ b,(Value.slice a6 (G.length+1) c6).ownBlock=some b→b≠p:=fun b e e2=>by
         subst e2;rcases h6.2.2.1 _ e with g|g
         ·exact HQ.out.pg _ g rfl
         ·simp at g;omega
        refine PG.gave (P:=⟨S8,R.1,G⟩) HQ.out (aY h6.1 (fun b e=>Ii _ _ _ _ (hnp b e))) (aP (h6.2.2.2.2.trans HQ.out.bk) _) (fun b hb hne hbp=>(Ii _ _ _ _ hbp).trans (h6.2.2.2.1 b hb hne)) (by have:=h6.2.1.size;simp at this ⊢;omega) (fun b hb=>?_);exact Q168
       have HE2:=Ib (show P.given++nG (R.2.take (k+1))=G++[⟨x1,x2⟩] by rw [HAT.out,HG.out,List.append_assoc];simp)
       have HGR:=Ib hgr
       have HGV:=Ib hgv
       clear hgr hgv x43 xfp a1 a2
       go_wp2
       go_roundw
       case rel=>exact ⟨k+1,by omega,by go_num,HGR.out,a6,c6,by rw [HE2.out,It];exact HGV.out⟩
       case measure=>simp [intOf];omega
     ·go_wp2;go_roundw
      case rel=>exact ⟨k+1,by omega,by go_num,HB.out,ag,cg,by rw [HAT.out,if_neg hx0,List.append_nil,← HG.out];exact HQ.out⟩
      case measure=>simp [intOf];omega
    ·have hge:¬ (R.2.length:Int)<(R.2.length:Int):=by omega
     go_wp2;refine IM (v:=.bool true) ?_ rfl ?_
     ·simp [results,Tryz.results27,go_sem]
     ·refine ⟨V2,M8,v8,.slice ag G.length cg,rfl,?_,HB.out⟩;have h1:=HQ.out;have h2:=HG.out;rw [List.take_length] at h2
      have h3:(⟨S8,R.1,G⟩:kY)=sE P ev:=by rw [HS8.out,h2];unfold sE;rw [HR.out]
      rw [h3] at h1;exact h1
end
end Go.Proofs.YtocbhafgjepnjaaGreat
