/- Texts of the row's proof. Conditions: none. -/
import Derived.Deep.DeepAppendRoom
import Derived.Deep.Onto
import Derived.Deep.RegionLaw
import Derived.Laws.AppendOwnNone
import Derived.Lib.AppendZerosOnto
import Derived.Lib.Overlaps
import Derived.Test.YtennppmadmgfoaaGreatDoorK02
namespace Go.Proofs.YtennppmadmgfoaaGreatDoor
open Proofs.Tryz
set_option maxRecDepth 100000
set_option maxHeartbeats 8000000
section
open Go.RowKit
theorem Q99 {p:Prop} (h:p:=by
 show World.ownsRow _ _ _ _ _ _ _
 rw [HIn.out,Lv];simpa using hown'):p:=h
theorem Q123 {p:Prop} (h:p:=by
 rw [run_slice_h W LS _ _ _ ht .i64 _ (by omega) (by omega),he,hz];simp [Result.andThen,sliced,Addr.add_lit]):p:=h
theorem kX {P:Program} (w:World) (E sT ty elem:TypeId) (sz g o h J:Nat) (a:Addr) (z a2:Nat) (cur:Array Value) (t:TypeId) (cs:List Value)
  (hu:P.underlying E=some (.slice elem)) (I:(P.info? elem).map (·.size)=some sz)
  (W:w.heap[g]?=some (.cells cur t (0,0))) (hn:cs.length=Nat.min z h*sz)
  (a0:∀ j v,cs[j]?=some v->w.cell? (a.add j)=some v) (U:o+cs.length<=cur.size) (K:∀ v∈cs,v.oneCell'=true) :
  (Builtin.copy_ #[E,sT] ty #[.slice (some ⟨g,o,none⟩) h J,.slice (some a) z a2]).run P w =
   .ok (goInt (Nat.min z h:Nat)) (w.setRow g (cur.toList.take o++cs++cur.toList.drop (o+cs.length)).toArray):=by
 have Z:=run_loadCells_list (P:=P) w a cs a0
 have a1:=run_storeCells_at P g o t cs 0 cur w W (by simpa using U) K
 cases hq:P.info? elem with
 | none=>simp [hq] at I
 | some i=>
  have Y:i.size=sz:=by simpa [hq] using I
  simp [Builtin.copy_,run_underlying hu,Builtin.lenOf,Builtin.firstCells,sizeOf,typeInfo,hq,Y,<- hn,Z,a1]
theorem iJ {P:Program} (w:World) {ops:Array Oper} {rest:List Oper} {o:Oper} {a:Act} {Q:Exit->Act->World->Prop} (hgd:o.guard=none) (d s:Operand) (t t':TypeId)
  (ho:o.op=.call { callee:=.builtin .append,args:=#[d,s],argTypes:=#[t,t'] }) (v u:Value) (hd:a.eval d=v) (hs:a.eval s=u) {v':Value} {w':World}
  (hr:∀ ty,(Builtin.append_ #[t,t'] ty #[v,u]).run P w=.ok v' w') (h:wpList P ops Q rest (a.put o.dst v') w'):wpList P ops Q (o :: rest) a w:=by
 refine wpList_plain hgd fun K hK=>?_
 unfold Oper.wp
 simp [execOp,ho,resolve,invoke,builtin,hd,hs,hr,Result.andThen]
 exact hK _ _ h
theorem gE {P:Program} {I:Array Oper} {o:Oper} {a:Act} {w:World} {h:Act->World->Prop} {Q:Exit->Act->World->Prop} {E:Prop}
  (W:o.guard=none) (d x:Operand) (z J:TypeId) (Y:o.op=Op.call { callee:=Callee.builtin Builtin.copy,args:=#[d,x],argTypes:=#[z,J] })
  (v u:Value) (U:a.eval d=v) (hx:a.eval x=u) {v':Value} {w':World} (Z:∀ ty,(Builtin.copy_ #[z,J] ty #[v,u]).run P w=.ok v' w') (K:h (a.put o.dst v') w') :
  if Region.wanted o (yielded I a.tmps)=true then Oper.wp P o a w h Q else E:=by
 have hw:Region.wanted o (yielded I a.tmps)=true:=by simp [Region.wanted,W]
 rw [if_pos hw]
 unfold Oper.wp
 simp [execOp,Y,resolve,invoke,builtin,U,hx,Z,Result.andThen]
 exact K
def eB {α:Type} (X:List α) (i:Nat) (c:α):List α:=X.take i++c :: X.drop i
theorem FO {α:Type} (X:List α) (i:Nat) (c:α) (h:i<=X.length):(eB X i c).length=X.length+1:=by simp [eB];omega
theorem rN {α:Type} (X:List α) (c:α):eB X X.length c=X++[c]:=by simp [eB]
theorem lJ {sz:Nat} {X:List (List Value)} (I:∀ c∈X,c.length=sz) (i:Nat) (K:i<=X.length):X.flatten.take (i*sz)=(X.take i).flatten/\X.flatten.drop (i*sz)=(X.drop i).flatten/\(X.take i).flatten.length=i*sz/\(X.drop i).flatten.length=(X.length - i)*sz:=by
 have E:(X.take i).flatten.length=i*sz:=by rw [aP (fun c h=>I c (List.mem_of_mem_take h)),Ls,Nat.min_eq_left K]
 have J:(X.drop i).flatten.length=(X.length - i)*sz:=by rw [aP (fun c h=>I c (List.mem_of_mem_drop h)),List.length_drop]
 have z:X.flatten=(X.take i).flatten++(X.drop i).flatten:=by rw [<- Lv,Lx]
 refine ⟨?_,?_,E,J⟩
 ·rw [z,List.take_append_of_le_length (by omega),Lo (by omega)]
 ·rw [z,List.drop_append,List.drop_of_length_le (by omega),E];simp
theorem FK {sz cap i:Nat} {X:List (List Value)} {c:List Value} {cur:List Value} (Z:∀ c∈X,c.length=sz) (z:c.length=sz) (hi:i<X.length) (a0:X.length+1<=cap) (hl:cur.length=cap*sz) (ht:cur.take (X.length*sz)=X.flatten) :
  ∀ h,h=cur.take ((i+1)*sz)++(X.drop i).flatten++cur.drop ((i+1)*sz+(X.drop i).flatten.length)->h.length=cap*sz/\(h.take (i*sz)++c++h.drop (i*sz+c.length)).length=cap*sz/\(h.take (i*sz)++c++h.drop (i*sz+c.length)).take ((X.length+1)*sz)=(eB X i c).flatten:=by
 intro h I
 obtain ⟨Y,e2,J,E⟩:=lJ Z i (by omega)
 have m1:(i+1)*sz=i*sz+sz:=Nat.succ_mul i sz
 have m2:X.length*sz+sz<=cap*sz:=by rw [<- Nat.succ_mul];exact Lt _ a0
 have m3:(X.length - i)*sz+i*sz=X.length*sz:=by rw [<- Nat.add_mul,Nat.sub_add_cancel (by omega)]
 have m4:(X.length+1)*sz=X.length*sz+sz:=Nat.succ_mul _ _
 have m5:i*sz+sz<=X.length*sz:=by rw [<- Nat.succ_mul];exact Lt _ hi
 have K:(cur.take ((i+1)*sz)).length=i*sz+sz:=by rw [Ls];omega
 have U:h.length=cap*sz:=by rw [I];simp only [Ll,K,E,List.length_drop];omega
 have t1:h.take (i*sz)=(X.take i).flatten:=by
  rw [I,List.append_assoc,List.take_append_of_le_length (by omega),List.take_take,Nat.min_eq_left (by omega)];have:cur.take (i*sz)=(cur.take (X.length*sz)).take (i*sz):=by rw [List.take_take,Nat.min_eq_left (by omega)]
  rw [this,ht,Y]
 have W:h.drop (i*sz+c.length)=(X.drop i).flatten++cur.drop ((i+1)*sz+(X.drop i).flatten.length):=by
  rw [I,List.append_assoc,List.drop_append,List.drop_of_length_le (by omega),K,z];simp
 refine ⟨U,?_,?_⟩
 ·simp only [Ll,Ls,List.length_drop,U,z];omega
 ·rw [t1,W];have:(eB X i c).flatten=(X.take i).flatten++c++(X.drop i).flatten:=by simp [eB]
  rw [this,<- List.append_assoc,List.take_append_of_le_length (by simp only [Ll,J,E,z];omega),Lo (by simp only [Ll,J,E,z];omega)]
theorem FL {sz cap i:Nat} {X:List (List Value)} {c:List Value} {I:List Value} (W:∀ c∈X,c.length=sz) (z:c.length=sz) (Z:i<X.length) (Y:X.length+1<=cap) (hl:I.length=cap*sz) (ht:I.take (i*sz)=(X.take i).flatten) :
  ∀ h,h=I.take (i*sz)++c++I.drop (i*sz+c.length)->h.length=cap*sz/\(h.take ((i+1)*sz)++(X.drop i).flatten++h.drop ((i+1)*sz+(X.drop i).flatten.length)).length=cap*sz/\(h.take ((i+1)*sz)++(X.drop i).flatten++h.drop ((i+1)*sz+(X.drop i).flatten.length)).take ((X.length+1)*sz)=(eB X i c).flatten:=by
 intro h K
 obtain ⟨e1,e2,E,J⟩:=lJ W i (by omega)
 have m1:(i+1)*sz=i*sz+sz:=Nat.succ_mul i sz
 have m2:X.length*sz+sz<=cap*sz:=by rw [<- Nat.succ_mul];exact Lt _ Y
 have m3:(X.length - i)*sz+i*sz=X.length*sz:=by rw [<- Nat.add_mul,Nat.sub_add_cancel (by omega)]
 have m4:(X.length+1)*sz=X.length*sz+sz:=Nat.succ_mul _ _
 have m5:i*sz+sz<=X.length*sz:=by rw [<- Nat.succ_mul];exact Lt _ Z
 have U:h.length=cap*sz:=by rw [K];simp only [Ll,Ls,List.length_drop,z];omega
 have t1:h.take ((i+1)*sz)=(X.take i).flatten++c:=by
  rw [K,ht,List.take_append_of_le_length (by simp only [Ll,E,z];omega),Lo (by simp only [Ll,E,z];omega)]
 refine ⟨U,?_,?_⟩
 ·simp only [Ll,Ls,List.length_drop,U,J];omega
 ·rw [t1];have:(eB X i c).flatten=(X.take i).flatten++c++(X.drop i).flatten:=by simp [eB]
  rw [this,List.take_append_of_le_length (by simp only [Ll,E,J,z];omega),Lo (by simp only [Ll,E,J,z];omega)]
def C5 (B:Nat) (w:World) (E:TypeId) (sz:Nat) (v:Value) (X:List (List Value)) (i:Nat) (c:List Value) (e:Ending) (w':World):Prop:=∃ v',e=.returned v'/\w'.ownsRow B E sz v' (X.length+1) (eB X i c).flatten/\w.grownBy w' v.ownBlock
def InsPost2 (B:Nat) (w:World) (E:TypeId) (sz:Nat) (v:Value) (X:List (List Value)) (i:Nat) (c:List Value) (e:Ending) (w':World):Prop:=∃ v',e=.returned v'/\w'.ownsRow B E sz v' (X.length+1) (eB X i c).flatten/\w.grownBy w' v.ownBlock/\∀ b,v'.ownBlock=some b->v.ownBlock=some b\/w.heap.size<=b
theorem InsPost2.one {B:Nat} {w:World} {h:TypeId} {sz:Nat} {v:Value} {X:List (List Value)} {i:Nat} {c:List Value} {e:Ending} {w':World} (z:InsPost2 B w h sz v X i c e w'):C5 B w h sz v X i c e w':=by
 obtain ⟨K,E,I,J,_⟩:=z;exact ⟨K,E,I,J⟩
theorem rO {w w':World} (h:w.grownBy w' none) (o:Option Nat):w.grownBy w' o:=⟨h.os,h.tape,h.output,h.size,fun k z _=>h.block k z (by simp)⟩
theorem fU {P:Program} (w:World) {a9:Array Oper} {rest:List Oper} {o:Oper} {a:Act} {Q:Exit->Act->World->Prop} (Y:o.guard=none) (s x:Operand) (t:TypeId)
  (ho:o.op=.call { callee:=.builtin .append,args:=#[s,x],argTypes:=#[t,t] })
  (base:Nat) (e:TypeId) (i:TypeInfo) (K:Value) (size bytes:Nat) (ht:P.underlying t=some (.slice e)) (Z:P.info? e=some i) (hz:i.zero=some K)
  (a1:i.size=size) (a4:i.bytes=bytes) (a8:K.cells.size=size) (a6:0<size)
  (v:Value) (n:Nat) (xs:List Value) (hs:a.eval s=v) (J:w.ownsRow base e size v n xs)
  (E:Addr) (m c:Nat) (news:List Value) (hx:a.eval x=.slice (some E) m c) (hl:news.length=m*size) (a0:∀ j u,news[j]?=some u->w.cell? (E.add j)=some u) (W:∀ u∈news,u.oneCell'=true) (hm:0<m)
  (a2:n+m<=maxLen) (a5:(n+m)*bytes<=140737488355328) (a3:base<=w.heap.size)
  (U:∀ v' w',w'.ownsRow base e size v' (n+m) (xs++news)->w.grownBy w' v.ownBlock->(∀ b,v'.ownBlock=some b->v.ownBlock=some b\/w.heap.size<=b)->wpList P a9 Q rest (a.put o.dst v') w'):wpList P a9 Q (o :: rest) a w:=by
 have a7:=J.1
 rcases J.2 with ⟨rfl,rfl⟩|⟨g,cap,cur,rfl,aa,hg,af,ab,ac,ag⟩
 ·obtain rfl:xs=[]:=List.eq_nil_of_length_eq_zero (by simpa using a7)
  exact wpList_append_grows w Y s x t ho e i K size bytes ht Z hz a1 a4 a8 a6 none 0 0 [] hs (fun _=>⟨rfl,rfl⟩) (by simp) (fun b h=>by cases h) E m c news hx hl a0 W (by omega) a2 a5
   (fun v' w' z I=>U v' w' (z.mono a3) (rO I _) (fun b h=>Or.inr (z.lt b h).1))
 ·by_cases hroom:n+m<=cap
  ·exact wpList_append_own_spare w Y s x t ho base e i size ht Z a1 g n cap xs hs J E m c news hx hl a0 W hroom (fun w' z I=>U _ w' z I (fun b h=>Or.inl h))
  ·exact wpList_append_grows w Y s x t ho e i K size bytes ht Z hz a1 a4 a8 a6 (some ⟨g,0,none⟩) n cap xs hs (fun e=>by cases e) a7 (fun b h=>by injection h with h;subst h;exact J.cells (g:=g) rfl) E m c news hx hl a0 W (by omega) a2 a5
    (fun v' w' z I=>U v' w' (z.mono a3) (rO I _) (fun b h=>Or.inr (z.lt b h).1))
section
variable {LE LS:TypeId} {sz OV:Nat} {B i vb g cap:Nat} {X:List (List Value)} {c:List Value} {cur:Array Value} {w:World}
theorem zQ (a0:prog.underlying LS=some (.slice LE)) (he:prog.elem LS=LE) (ac:(prog.info? LE).map (·.size)=some sz) (hz:∀ W,(sizeOf LE).run prog W=.ok sz W) (hp:0<sz)
  (hO:∀ A (W W':World) v,(Extern.SlicesOverlaps.overlaps #[LS,LS] #[4] A).run prog W=.ok v W'->(callFunc OV A).run prog W=.ok (.value v) W')
  (hX:∀ c∈X,c.length=sz) (h1:∀ u∈X.flatten,u.oneCell'=true) (hc:c.length=sz) (af:∀ u∈c,u.oneCell'=true) (hn:X.length<=100000) (a4:w.heap[vb]?=some (.cells c.toArray LE (0,0))) (ab:i<X.length)
  (a9:g≠vb) (ak:B<=g) (hg:w.heap[g]?=some (.cells cur LE (0,0))) (a6:cap<=maxLen) (a7:cur.size=cap*sz) (ad:cur.toList.take (X.length*sz)=X.flatten) (Y:X.length+1<=cap) :
  ∃ W1 W2:World,(∀ W,(Instr.slice LS (.slice (some ⟨g,0,none⟩) X.length cap) (some (.int .i64 (i:Int))) none none).run prog W=.ok (.slice (some ⟨g,i*sz,none⟩) (X.length - i) (cap - i)) W)/\
   (∀ W,(Instr.slice LS (.slice (some ⟨g,0,none⟩) X.length cap) none (some (.int .i64 ((X.length:Int)+1))) none).run prog W=.ok (.slice (some ⟨g,0,none⟩) (X.length+1) cap) W)/\
   (∀ W,(Instr.slice LS (.slice (some ⟨g,0,none⟩) (X.length+1) cap) (some (.int .i64 ((i:Int)+1))) none none).run prog W=.ok (.slice (some ⟨g,(i+1)*sz,none⟩) (X.length - i) (cap - (i+1))) W)/\
   (∀ W,(Instr.slice LS (.slice (some ⟨g,0,none⟩) (X.length+1) cap) (some (.int .i64 (i:Int))) none none).run prog W=.ok (.slice (some ⟨g,i*sz,none⟩) (X.length+1 - i) (cap - i)) W)/\
   (∀ lb cb,(callFunc OV #[.slice (some ⟨vb,0,none⟩) 1 1,.slice (some ⟨g,(i+1)*sz,none⟩) lb cb]).run prog w=.ok (.value (.bool false)) w)/\
   (∀ J,(Builtin.copy_ #[LS,LS] J #[.slice (some ⟨g,(i+1)*sz,none⟩) (X.length - i) (cap - (i+1)),.slice (some ⟨g,i*sz,none⟩) (X.length+1 - i) (cap - i)]).run prog w.drew=.ok (goInt ((X.length - i:Nat):Int)) W1)/\
   (∀ J,(Builtin.copy_ #[LS,LS] J #[.slice (some ⟨g,i*sz,none⟩) (X.length+1 - i) (cap - i),.slice (some ⟨vb,0,none⟩) 1 1]).run prog W1=.ok (goInt ((1:Nat):Int)) W2)/\
   InsPost2 B w LE sz (.slice (some ⟨g,0,none⟩) X.length cap) X i c (.returned (.slice (some ⟨g,0,none⟩) (X.length+1) cap)) W2:=by
 have ht:prog.underlying LS=some (.slice (prog.elem LS)):=by rw [he];exact a0
 have al:∀ K u,c[K]?=some u->w.cell? ((⟨vb,0,none⟩:Addr).add K)=some u:=fun K u I=>by
  rw [Addr.add_lit,Nat.zero_add,ae a4];simpa using I
 have ag:cur.toList.length=cap*sz:=by simpa using a7
 obtain ⟨e1,e2,e3,e4⟩:=lJ hX i (by omega)
 have am:(cap:Int)<=9223372036854775807:=by unfold maxLen at a6;omega
 obtain ⟨z,a5⟩:∃ z,z=cur.toList.take ((i+1)*sz)++(X.drop i).flatten++cur.toList.drop ((i+1)*sz+(X.drop i).flatten.length):=⟨_,rfl⟩
 obtain ⟨l1,l2,l3⟩:=FK hX hc ab Y ag ad z a5
 have m1:(X.length - i)*sz+(i+1)*sz=X.length*sz+sz:=by rw [<- Nat.add_mul,show X.length - i+(i+1)=X.length+1 by omega,Nat.succ_mul]
 have m2:X.length*sz+sz<=cap*sz:=by rw [<- Nat.succ_mul];exact Lt _ Y
 have m3:i*sz+sz<=X.length*sz:=by rw [<- Nat.succ_mul];exact Lt _ ab
 have sl:∀ Z (E:Nat),Z<=cap->E<=Z->E<cap->∀ W,(Instr.slice LS (.slice (some ⟨g,0,none⟩) Z cap) (some (.int .i64 (E:Int))) none none).run prog W=.ok (.slice (some ⟨g,E*sz,none⟩) (Z - E) (cap - E)) W:=fun Z E a1 a2 a3 W=>by
  rw [run_slice_l W LS _ _ _ ht .i64 (E:Int) (by omega) (by omega),he,hz];simp [Result.andThen,sliced,show ¬ cap=E by omega,Addr.add_lit]
 have a8:(w.drew.setRow g z.toArray).heap[g]?=some (.cells z.toArray LE (0,0)):=setRow_heap w.drew g cur z.toArray LE (0,0) hg
 refine ⟨w.drew.setRow g z.toArray,(w.drew.setRow g z.toArray).setRow g (z.take (i*sz)++c++z.drop (i*sz+c.length)).toArray,sl _ i (by omega) (by omega) (by omega),fun W=>?_,by have h:=sl (X.length+1) (i+1) Y (by omega) (by omega);rw [Nat.add_sub_add_right] at h;exact h,sl _ i (by omega) (by omega) (by omega),fun lb cb=>hO _ _ _ _ ?_,fun J=>?_,fun J=>?_,_,rfl,⟨?_,.inr ⟨g,cap,_,rfl,ak,setRow_heap _ g _ _ _ _ a8,Y,a6,by simpa using l2,by simpa using l3⟩⟩,⟨rfl,rfl,rfl,by simp [World.setRow],fun E _ hk=>?_⟩,fun b hb=>Or.inl hb⟩
 ·exact Q123
 ·exact Lib.run_overlaps_apart w LS 4 LE a0 sz hz ⟨vb,0,none⟩ ⟨g,(i+1)*sz,none⟩ 1 1 lb cb (Ne.symm a9) LE LE c.toArray.size cur.size (by simp [World.shape?,a4]) (by simp [World.shape?,hg]) (by omega) (az a4 _) (az a4 _)
 ·have U:Nat.min (X.length+1 - i) (X.length - i)=X.length - i:=by simp only [Nat.min_def];split<;>omega
  have:=kX (P:=prog) w.drew LS LS J LE sz g ((i+1)*sz) (X.length - i) (cap - (i+1)) ⟨g,i*sz,none⟩ (X.length+1 - i) (cap - i) cur LE (X.drop i).flatten a0 ac hg (by rw [U,e4]) (fun K u I=>by
   rw [Addr.add_lit];rw [<- e2,<- ad,List.getElem?_drop,List.getElem?_take] at I
   split at I
   ·rw [ae (w:=w.drew) hg,<- LV];exact I
   ·cases I) (by rw [e4];rw [a7];omega) (fun u I=>h1 u (by rw [<- Lx (i*sz) X.flatten,e2];exact List.mem_append_right _ I))
  rw [U,<- a5] at this;exact this
 ·have U:Nat.min 1 (X.length+1 - i)=1:=by simp only [Nat.min_def];split<;>omega
  have:=kX (P:=prog) (w.drew.setRow g z.toArray) LS LS J LE sz g (i*sz) (X.length+1 - i) (cap - i) ⟨vb,0,none⟩ 1 1 z.toArray LE c a0 ac a8 (by rw [U,hc,Nat.one_mul]) (fun K u I=>by
   have h:=al K u I;rw [Addr.add_lit] at h ⊢
   exact (cell_setRow_other w.drew g _ _ (by show vb≠g;exact Ne.symm a9)).trans h) (by simp only [List.size_toArray];omega) af
  rw [U] at this;exact this
 ·rw [<- l3,Ls,l2];exact Nat.min_eq_left (Lt _ Y)
 ·have aa:E≠g:=fun e=>hk (by rw [e];rfl);rw [setRow_other _ _ _ _ aa,setRow_other _ _ _ _ aa]
  rfl
theorem zR {i0:TypeInfo} {z:Value} {bs:Nat} (htu:prog.underlying LS=some (.slice LE)) (he:prog.elem LS=LE) (ji:prog.info? LE=some i0) (ji0:i0.zero=some z) (ji1:i0.size=sz) (ji2:i0.bytes=bs) (hb:bs<=100) (hzs:z.cells.size=sz) (hz:∀ W,(sizeOf LE).run prog W=.ok sz W) (hp:0<sz)
  (hX:∀ c∈X,c.length=sz) (h1:∀ u∈X.flatten,u.oneCell'=true) (hc:c.length=sz) (hc1:∀ u∈c,u.oneCell'=true) (hn:X.length<=100000) (hvb:w.heap[vb]?=some (.cells c.toArray LE (0,0))) (hlt:i<X.length)
  (hB:B<=w.heap.size) (hg:w.heap[g]?=some (.cells cur LE (0,0))) (htk:cur.toList.take (X.length*sz)=X.flatten) :
  ∃ (G:Nat) (W1 W2 W3:World),(G:Int)<=9223372036854775807/\X.length+1<=G/\(∀ W,(Instr.slice LS (.slice (some ⟨g,0,none⟩) X.length X.length) (some (.int .i64 (i:Int))) none none).run prog W=.ok (.slice (some ⟨g,i*sz,none⟩) (X.length - i) (X.length - i)) W)/\
   (∀ W,(Instr.slice LS (.slice (some ⟨g,0,none⟩) X.length X.length) none (some (.int .i64 (i:Int))) none).run prog W=.ok (.slice (some ⟨g,0,none⟩) i X.length) W)/\
   (∀ ty,(Builtin.append_ #[LS,3] ty #[.slice (some ⟨g,0,none⟩) i X.length,.int .i64 ((X.length:Int)+1 - (i:Int))]).run prog w=.ok (.slice (some ⟨w.heap.size,0,none⟩) (X.length+1) G) W1)/\
   (∀ W,(Instr.slice LS (.slice (some ⟨w.heap.size,0,none⟩) (X.length+1) G) (some (.int .i64 (i:Int))) none none).run prog W=.ok (.slice (some ⟨w.heap.size,i*sz,none⟩) (X.length+1 - i) (G - i)) W)/\
   (∀ W,(Instr.slice LS (.slice (some ⟨w.heap.size,0,none⟩) (X.length+1) G) (some (.int .i64 ((i:Int)+1))) none none).run prog W=.ok (.slice (some ⟨w.heap.size,(i+1)*sz,none⟩) (X.length - i) (G - (i+1))) W)/\
   (∀ ty,(Builtin.copy_ #[LS,LS] ty #[.slice (some ⟨w.heap.size,i*sz,none⟩) (X.length+1 - i) (G - i),.slice (some ⟨vb,0,none⟩) 1 1]).run prog W1=.ok (goInt ((1:Nat):Int)) W2)/\
   (∀ ty,(Builtin.copy_ #[LS,LS] ty #[.slice (some ⟨w.heap.size,(i+1)*sz,none⟩) (X.length - i) (G - (i+1)),.slice (some ⟨g,i*sz,none⟩) (X.length - i) (X.length - i)]).run prog W2.drew=.ok (goInt ((X.length - i:Nat):Int)) W3)/\
   InsPost2 B w LE sz (.slice (some ⟨g,0,none⟩) X.length X.length) X i c (.returned (.slice (some ⟨w.heap.size,0,none⟩) (X.length+1) G)) W3:=by
 have ht:prog.underlying LS=some (.slice (prog.elem LS)):=by rw [he];exact htu
 have hsz:(prog.info? LE).map (·.size)=some sz:=by rw [ji];simp [ji1]
 have lg:=lt_of_block hg
 have hvn:∀ j u,c[j]?=some u->w.cell? ((⟨vb,0,none⟩:Addr).add j)=some u:=fun j u hu=>by
  rw [Addr.add_lit,Nat.zero_add,ae hvb];simpa using hu
 obtain ⟨e1,e2,e3,e4⟩:=lJ hX i (by omega)
 obtain ⟨G,hG⟩:∃ G,G=grownCap w (X.length+1) X.length LE:=⟨_,rfl⟩
 have hGe:X.length+1<=G:=by rw [hG];exact grownCap_ge _ _ _ _
 have hGm:G<=maxLen:=by rw [hG];exact grownCap_le_maxLen _ _ _ _ (by unfold maxLen;omega)
 have hGx:(G:Int)<=9223372036854775807:=by unfold maxLen at hGm;omega
 obtain ⟨row,hrow⟩:∃ row:Array Value,row=(X.take i).flatten.toArray++Builtin.zeroCells z.cells (X.length+1 - i)++Builtin.zeroCells z.cells (G - (X.length+1)):=⟨_,rfl⟩
 have hrl:row.toList.length=G*sz:=by
  rw [hrow];simp only [Array.toList_append,Ll,Array.length_toList,size_zeroCells,e3];rw [hzs,<- Nat.add_mul,<- Nat.add_mul]
  congr 1;omega
 have hrt:row.toList.take (i*sz)=(X.take i).flatten:=by
  rw [hrow];simp only [Array.toList_append,List.append_assoc];rw [List.take_append_of_le_length (by omega),Lo (by omega)]
 obtain ⟨r1,hr1⟩:∃ r1,r1=row.toList.take (i*sz)++c++row.toList.drop (i*sz+c.length):=⟨_,rfl⟩
 obtain ⟨l1,l2,l3⟩:=FL hX hc hlt hGe hrl hrt r1 hr1
 obtain ⟨r2,hr2⟩:∃ r2,r2=r1.take ((i+1)*sz)++(X.drop i).flatten++r1.drop ((i+1)*sz+(X.drop i).flatten.length):=⟨_,rfl⟩
 rw [<- hr2] at l2 l3
 have m1:(X.length - i)*sz+(i+1)*sz=X.length*sz+sz:=by rw [<- Nat.add_mul,show X.length - i+(i+1)=X.length+1 by omega,Nat.succ_mul]
 have m2:X.length*sz+sz<=G*sz:=by rw [<- Nat.succ_mul];exact Lt _ hGe
 have m3:i*sz+sz<=X.length*sz:=by rw [<- Nat.succ_mul];exact Lt _ hlt
 have sl:∀ b n cp k:Nat,n<=cp->(cp:Int)<=9223372036854775807->k<=n->k<cp->∀ W,(Instr.slice LS (.slice (some ⟨b,0,none⟩) n cp) (some (.int .i64 (k:Int))) none none).run prog W=.ok (.slice (some ⟨b,k*sz,none⟩) (n - k) (cp - k)) W:=fun b n cp k a1 a0 a2 a3 W=>by
  rw [run_slice_l W LS _ _ _ ht .i64 (k:Int) (by omega) (by omega),he,hz];simp [Result.andThen,sliced,show ¬ cp=k by omega,Addr.add_lit]
 have hg3:(w.alloc (.cells row LE)).drew.heap[w.heap.size]?=some (.cells row LE (0,0)):=aB (w:=w.drew) _ rfl
 have hg4:((w.alloc (.cells row LE)).drew.setRow w.heap.size r1.toArray).drew.heap[w.heap.size]?=some (.cells r1.toArray LE (0,0)):=setRow_heap _ w.heap.size _ _ _ _ hg3
 refine ⟨G,(w.alloc (.cells row LE)).drew,(w.alloc (.cells row LE)).drew.setRow w.heap.size r1.toArray,((w.alloc (.cells row LE)).drew.setRow w.heap.size r1.toArray).drew.setRow w.heap.size r2.toArray,hGx,hGe,sl _ _ _ i (by omega) (by omega) (by omega) (by omega),fun W=>?_,fun ty=>?_,sl _ _ _ i hGe hGx (by omega) (by omega),by have h:=sl w.heap.size (X.length+1) G (i+1) hGe hGx (by omega) (by omega);rw [Nat.add_sub_add_right] at h;exact h,fun ty=>?_,fun ty=>?_,_,rfl,⟨?_,.inr ⟨w.heap.size,G,r2.toArray,rfl,hB,setRow_heap _ _ _ _ _ _ hg4,hGe,hGm,by simpa using l2,by simpa using l3⟩⟩,⟨rfl,rfl,rfl,by simp [World.setRow],fun k hk _=>?_⟩,fun b hb=>Or.inr (Nat.le_of_eq (Option.some.inj hb))⟩
 ·exact Q123
 ·have hold:(Builtin.firstCells i0.size i (.slice (some ⟨g,0,none⟩) i X.length)).run prog w.drew=.ok (X.take i).flatten.toArray w.drew:=by
   rw [ji1]
   exact run_firstCells_some w.drew sz i ⟨g,0,none⟩ i X.length (X.take i).flatten (by rw [e3]) (fun j u hu=>by
    rw [Addr.add_lit,Nat.zero_add,ae (w:=w.drew) hg,<- LV];rw [<- e1,<- htk,List.take_take,List.getElem?_take] at hu
    split at hu
    ·exact hu
    ·cases hu)
  have q:∀ n,n<=100001->n*bs<=10000100:=fun n h=>Nat.mul_le_mul h hb;have h:=Lib.run_append_grow_zeros (P:=prog) w LS 3 ty LE i0 _ .i64 .i64 htu (by kernel_rfl) ji ji0 (some ⟨g,0,none⟩) i X.length (X.take i).flatten hold (X.length+1 - i) (by omega) (by rw [ji1];exact hp) (by omega) (by omega) (by have:=q (X.length+1 - i) (by omega);rw [ji2];omega) (by rw [ji2,show i+(X.length+1 - i)=X.length+1 by omega];exact growslice_fits (by omega) (by have:=q (X.length+1) (by omega);omega));rw [show i+(X.length+1 - i)=X.length+1 by omega,<- hG,<- hrow] at h;rw [show ((X.length:Int)+1 - (i:Int))=((X.length+1 - i:Nat):Int) by omega];exact h
 ·have hmin:Nat.min 1 (X.length+1 - i)=1:=by simp only [Nat.min_def];split<;>omega
  have:=kX (P:=prog) (w.alloc (.cells row LE)).drew LS LS ty LE sz w.heap.size (i*sz) (X.length+1 - i) (G - i) ⟨vb,0,none⟩ 1 1 row LE c htu hsz hg3 (by rw [hmin,hc,Nat.one_mul]) (fun j u hu=>by
   have h:=hvn j u hu;rw [Addr.add_lit] at h ⊢
   exact aI (w:=w.drew) _ h) (by rw [<- Array.length_toList,hrl];omega) hc1
  rw [hmin,<- hr1] at this;exact this
 ·have hmin:Nat.min (X.length - i) (X.length - i)=X.length - i:=by simp only [Nat.min_def];split<;>omega
  have:=kX (P:=prog) ((w.alloc (.cells row LE)).drew.setRow w.heap.size r1.toArray).drew LS LS ty LE sz w.heap.size ((i+1)*sz) (X.length - i) (G - (i+1)) ⟨g,i*sz,none⟩ (X.length - i) (X.length - i) r1.toArray LE (X.drop i).flatten htu hsz hg4 (by rw [hmin,e4]) (fun j u hu=>by
   rw [Addr.add_lit]
   have hcell:w.cell? ⟨g,i*sz+j,none⟩=some u:=by
    rw [<- e2,<- htk,List.getElem?_drop,List.getElem?_take] at hu
    split at hu
    ·rw [ae hg,<- LV];exact hu
    ·cases hu
   have h2:(w.alloc (.cells row LE)).drew.cell? ⟨g,i*sz+j,none⟩=some u:=aI (w:=w.drew) _ hcell
   exact (cell_setRow_other _ _ _ _ (by show g≠w.heap.size;omega)).trans h2) (by simp only [List.size_toArray];rw [e4];omega) (fun u hu=>h1 u (by rw [<- Lx (i*sz) X.flatten,e2];exact List.mem_append_right _ hu))
  rw [hmin] at this;simp only at this;rw [<- hr2] at this;exact this
 ·rw [<- l3,Ls,l2];exact Nat.min_eq_left (Lt _ hGe)
 ·rw [setRow_other _ _ _ _ (by omega:k≠w.heap.size)];refine (setRow_other (w.alloc (.cells row LE)).drew w.heap.size k _ (by omega)).trans ?_;exact heap_alloc_old w.drew _ hk
end
theorem zV:(prog.info? 184).map (fun i=>(i.zero,i.size,i.bytes))=some (some (.agg #[.int .i64 0,.int .i64 0]),2,16):=by kernel_rfl
theorem insTm2 (B:Nat) (v:Value) (X:List (List Value)) (i vb:Nat) (c:List Value) (w:World) (ho:w.ownsRow B 184 2 v X.length X.flatten) (Z:∀ c∈X,c.length=2) (U:∀ u∈X.flatten,u.oneCell'=true) (hc:c.length=2) (J:∀ u∈c,u.oneCell'=true)
  (hi:i<=X.length) (hn:X.length<=100000) (I:w.heap[vb]?=some (.cells c.toArray 184 (0,0))) (ax:v.ownBlock≠some vb) (hB:B<=w.heap.size) :
  Calls prog 150 #[v,.int .i64 (i:Int),.slice (some ⟨vb,0,none⟩) 1 1] w (InsPost2 B w 184 2 v X i c):=by
 obtain ⟨i0,ji,a9,a3,aa⟩:=info_parts zV
 have K:∀ W,(sizeOf 184).run prog W=.ok 2 W:=fun W=>by simp [sizeOf,typeInfo,ji,a3]
 have E:prog.underlying 181=some (.slice 184):=by kernel_rfl
 have z:prog.elem 181=184:=by kernel_rfl
 have a0:(prog.info? 184).map (·.size)=some 2:=by rw [ji];simp [a3]
 have a2:∀ j u,c[j]?=some u->w.cell? ((⟨vb,0,none⟩:Addr).add j)=some u:=fun j u hu=>by
  rw [Addr.add_lit,Nat.zero_add,ae I];simpa using hu
 have ba:=lt_of_block I
 rcases Nat.lt_or_ge i X.length with a7|b4
 ·obtain ⟨b9,h0|⟨g,cap,cur,rfl,av,hg,b2,a5,a4,a1⟩⟩:=ho
  ·omega
  ·have aw:g≠vb:=fun h=>ax (by rw [h];rfl);have lg:=lt_of_block hg;have g0:¬ (i:Int)=(X.length:Int):=by omega
   have aT:((i:Int) == (X.length:Int))=false:=by simpa using g0
   have b8:X.length<=100000:=hn
   have b6:IntKind.i64.wrap ((i:Int)+1)=(i:Int)+1:=by rw [IntKind.wrap_i64];omega
   have b7:((i:Int)+1).toNat=i+1:=by omega
   have b3:(cap:Int)<=9223372036854775807:=by unfold maxLen at a5;omega
   rcases (show X.length+1<=cap\/cap=X.length by omega) with aA|au
   ·have g1:¬ (cap:Int)<(X.length:Int)+1:=by omega
    obtain ⟨W1,W2,aF,aH,aL,aS,ay,am,an,Y⟩:=zQ E z a0 K (by decide) (fun A W W' v h=>by rw [run_callFunc_extern func169 (by kernel_rfl) (by kernel_rfl) (by kernel_rfl) (e:=Extern.SlicesOverlaps.overlaps #[181,181] #[4]) (by kernel_rfl),h];rfl) Z U hc J hn I a7 aw av hg a5 a4 a1 aA;have HP:=KL Y;clear Y a1 hg U J a2 I a4 Z hc E z a0 K;go_in;go_wp2_with (simp only [ay])
    go_region_law (refine gE rfl _ _ 181 181 rfl _ _ (by simp [Act.eval,Act.put]) (by simp [Act.eval,Act.put]) am ?_)
    go_wp2_with (at_builtin;refine wpList_copyK _ rfl _ _ 181 181 rfl _ _ rfl rfl an ?_);refine LN (v:=.slice (some ⟨g,0,none⟩) (X.length+1) cap) ?_ rfl HP.out;simp [results,results150,go_sem, *]
   ·subst au;have g1:(X.length:Int)<(X.length:Int)+1:=by omega
    obtain ⟨G,W1,W2,W3,b1,b0,aF,aH,al,aL,aS,ao,ar,Y⟩:=zR E z ji a9 a3 aa (by decide) rfl K (by decide) Z U hc J hn I a7 hB hg a1;have HP:=KL Y;clear Y a1 hg U J a2 I a4 Z hc E z a0 K;go_in;go_wp2_with (at_builtin;first|(refine iJ _ rfl _ _ 181 3 rfl _ _ rfl rfl al ?_)|(refine wpList_copyK _ rfl _ _ 181 181 rfl _ _ rfl rfl ao ?_))
    go_region_law (refine gE rfl _ _ 181 181 rfl _ _ (by simp [Act.eval,Act.put]) (by simp [Act.eval,Act.put]) ar ?_)
    go_wp2;refine LN (v:=.slice (some ⟨w.heap.size,0,none⟩) (X.length+1) G) ?_ rfl HP.out;simp [results,results150,go_sem, *]
 ·obtain rfl:i=X.length:=by omega
  have HO:=KL ho;obtain ⟨a,cap,rfl,_,_⟩:=aE ho
  obtain ⟨u0,b5⟩:∃ u,∀ W,(Instr.slice 181 (.slice a X.length cap) (some (.int .i64 (X.length:Int))) none none).run prog W=.ok u W:=⟨_,fun W=>by
   rw [run_slice_l W 181 _ _ _ (z.symm ▸ E) .i64 _ (by omega) (by omega),z,K];rfl⟩
  have HN:=KL a2;have ab:=KL J;have HIn:=KL (rN X c);have ag:=KL E;clear ho a2 J U Z I E z a0 K;go_in;go_wp2_with (at_builtin;go_loud (refine fU _ rfl _ _ 181 rfl B 184 i0 (.agg #[.int .i64 0,.int .i64 0]) 2 16 ag.out ji a9 a3 aa rfl (by decide) _ X.length X.flatten rfl HO.out ⟨vb,0,none⟩ 1 1 c rfl (by rw [hc]) HN.out ab.out (Nat.zero_lt_one) ?c2 ?c3 hB ?_))
  case c2=>unfold maxLen;omega
  case c3=>omega
  intro v' w' hown' a6 a8
  have af:Hid (w'.ownsRow B 184 2 v' (X.length+1) (eB X X.length c).flatten):=by
   exact Q99
  have ac:=KL a6;have ad:=KL a8;obtain ⟨a',ak,rfl,_,_⟩:=aE hown';clear hown' a6 a8;go_wp2;refine LN (v:=.slice a' (X.length+1) ak) ?_ rfl ⟨_,rfl,af.out,ac.out,ad.out⟩;simp [results,results150,go_sem, *]
theorem zW:(prog.info? 173).map (fun i=>(i.zero,i.size,i.bytes))=some (some (.agg #[.int .i64 0,.int .i64 0,.int .i64 0,.int .i64 0,.int .i64 0,.int .i64 0]),6,48):=by kernel_rfl
theorem insLf2 (B:Nat) (v:Value) (X:List (List Value)) (i vb:Nat) (c:List Value) (w:World) (ho:w.ownsRow B 173 6 v X.length X.flatten) (Z:∀ c∈X,c.length=6) (U:∀ u∈X.flatten,u.oneCell'=true) (hc:c.length=6) (J:∀ u∈c,u.oneCell'=true)
  (hi:i<=X.length) (hn:X.length<=100000) (I:w.heap[vb]?=some (.cells c.toArray 173 (0,0))) (ax:v.ownBlock≠some vb) (hB:B<=w.heap.size) :
  Calls prog 147 #[v,.int .i64 (i:Int),.slice (some ⟨vb,0,none⟩) 1 1] w (InsPost2 B w 173 6 v X i c):=by
 obtain ⟨i0,ji,a9,a3,aa⟩:=info_parts zW
 have K:∀ W,(sizeOf 173).run prog W=.ok 6 W:=fun W=>by simp [sizeOf,typeInfo,ji,a3]
 have E:prog.underlying 42=some (.slice 173):=by kernel_rfl
 have z:prog.elem 42=173:=by kernel_rfl
 have a0:(prog.info? 173).map (·.size)=some 6:=by rw [ji];simp [a3]
 have a2:∀ j u,c[j]?=some u->w.cell? ((⟨vb,0,none⟩:Addr).add j)=some u:=fun j u hu=>by
  rw [Addr.add_lit,Nat.zero_add,ae I];simpa using hu
 have ba:=lt_of_block I
 rcases Nat.lt_or_ge i X.length with a7|b4
 ·obtain ⟨b9,h0|⟨g,cap,cur,rfl,av,hg,b2,a5,a4,a1⟩⟩:=ho
  ·omega
  ·have aw:g≠vb:=fun h=>ax (by rw [h];rfl);have lg:=lt_of_block hg;have g0:¬ (i:Int)=(X.length:Int):=by omega
   have aT:((i:Int) == (X.length:Int))=false:=by simpa using g0
   have b8:X.length<=100000:=hn
   have b6:IntKind.i64.wrap ((i:Int)+1)=(i:Int)+1:=by rw [IntKind.wrap_i64];omega
   have b7:((i:Int)+1).toNat=i+1:=by omega
   have b3:(cap:Int)<=9223372036854775807:=by unfold maxLen at a5;omega
   rcases (show X.length+1<=cap\/cap=X.length by omega) with aA|au
   ·have g1:¬ (cap:Int)<(X.length:Int)+1:=by omega
    obtain ⟨W1,W2,aF,aH,aL,aS,ay,am,an,Y⟩:=zQ E z a0 K (by decide) (fun A W W' v h=>by rw [run_callFunc_extern func167 (by kernel_rfl) (by kernel_rfl) (by kernel_rfl) (e:=Extern.SlicesOverlaps.overlaps #[42,42] #[4]) (by kernel_rfl),h];rfl) Z U hc J hn I a7 aw av hg a5 a4 a1 aA;have HP:=KL Y;clear Y a1 hg U J a2 I a4 Z hc E z a0 K;go_in;go_wp2_with (simp only [ay])
    go_region_law (refine gE rfl _ _ 42 42 rfl _ _ (by simp [Act.eval,Act.put]) (by simp [Act.eval,Act.put]) am ?_)
    go_wp2_with (at_builtin;refine wpList_copyK _ rfl _ _ 42 42 rfl _ _ rfl rfl an ?_);refine LN (v:=.slice (some ⟨g,0,none⟩) (X.length+1) cap) ?_ rfl HP.out;simp [results,results147,go_sem, *]
   ·subst au;have g1:(X.length:Int)<(X.length:Int)+1:=by omega
    obtain ⟨G,W1,W2,W3,b1,b0,aF,aH,al,aL,aS,ao,ar,Y⟩:=zR E z ji a9 a3 aa (by decide) rfl K (by decide) Z U hc J hn I a7 hB hg a1;have HP:=KL Y;clear Y a1 hg U J a2 I a4 Z hc E z a0 K;go_in;go_wp2_with (at_builtin;first|(refine iJ _ rfl _ _ 42 3 rfl _ _ rfl rfl al ?_)|(refine wpList_copyK _ rfl _ _ 42 42 rfl _ _ rfl rfl ao ?_))
    go_region_law (refine gE rfl _ _ 42 42 rfl _ _ (by simp [Act.eval,Act.put]) (by simp [Act.eval,Act.put]) ar ?_)
    go_wp2;refine LN (v:=.slice (some ⟨w.heap.size,0,none⟩) (X.length+1) G) ?_ rfl HP.out;simp [results,results147,go_sem, *]
 ·obtain rfl:i=X.length:=by omega
  have HO:=KL ho;obtain ⟨a,cap,rfl,_,_⟩:=aE ho
  obtain ⟨u0,b5⟩:∃ u,∀ W,(Instr.slice 42 (.slice a X.length cap) (some (.int .i64 (X.length:Int))) none none).run prog W=.ok u W:=⟨_,fun W=>by
   rw [run_slice_l W 42 _ _ _ (z.symm ▸ E) .i64 _ (by omega) (by omega),z,K];rfl⟩
  have HN:=KL a2;have ab:=KL J;have HIn:=KL (rN X c);have ag:=KL E;clear ho a2 J U Z I E z a0 K;go_in;go_wp2_with (at_builtin;go_loud (refine fU _ rfl _ _ 42 rfl B 173 i0 (.agg #[.int .i64 0,.int .i64 0,.int .i64 0,.int .i64 0,.int .i64 0,.int .i64 0]) 6 48 ag.out ji a9 a3 aa rfl (by decide) _ X.length X.flatten rfl HO.out ⟨vb,0,none⟩ 1 1 c rfl (by rw [hc]) HN.out ab.out (Nat.zero_lt_one) ?c2 ?c3 hB ?_))
  case c2=>unfold maxLen;omega
  case c3=>omega
  intro v' w' hown' a6 a8
  have af:Hid (w'.ownsRow B 173 6 v' (X.length+1) (eB X X.length c).flatten):=by
   exact Q99
  have ac:=KL a6;have ad:=KL a8;obtain ⟨a',ak,rfl,_,_⟩:=aE hown';clear hown' a6 a8;go_wp2;refine LN (v:=.slice a' (X.length+1) ak) ?_ rfl ⟨_,rfl,af.out,ac.out,ad.out⟩;simp [results,results147,go_sem, *]
theorem Kr (B:Nat) (v:Value) (X:List (List Value)) (i vb:Nat) (c:List Value) (w:World) (Z:w.ownsRow B 173 6 v X.length X.flatten) (I:∀ c∈X,c.length=6) (z:∀ u∈X.flatten,u.oneCell'=true) (J:c.length=6) (K:∀ u∈c,u.oneCell'=true)
  (U:i<=X.length) (W:X.length<=100000) (a0:w.heap[vb]?=some (.cells c.toArray 173 (0,0))) (Y:v.ownBlock≠some vb) (E:B<=w.heap.size) :
  Calls prog 147 #[v,.int .i64 (i:Int),.slice (some ⟨vb,0,none⟩) 1 1] w (C5 B w 173 6 v X i c):=
 (insLf2 B v X i vb c w Z I z J K U W a0 Y E).mono fun _ _ h=>h.one
theorem zX:(prog.info? 170).map (fun i=>(i.zero,i.size,i.bytes))=some (some (.agg #[.int .i64 0,.int .i64 0,.int .i64 0,.int .i64 0,.bool false,.int .i64 0,.int .i64 0]),7,56):=by kernel_rfl
theorem FP (B:Nat) (v:Value) (X:List (List Value)) (i vb:Nat) (c:List Value) (w:World) (ho:w.ownsRow B 170 7 v X.length X.flatten) (Z:∀ c∈X,c.length=7) (U:∀ u∈X.flatten,u.oneCell'=true) (hc:c.length=7) (J:∀ u∈c,u.oneCell'=true)
  (hi:i<=X.length) (hn:X.length<=100000) (I:w.heap[vb]?=some (.cells c.toArray 170 (0,0))) (ax:v.ownBlock≠some vb) (hB:B<=w.heap.size) :
  Calls prog 67 #[v,.int .i64 (i:Int),.slice (some ⟨vb,0,none⟩) 1 1] w (InsPost2 B w 170 7 v X i c):=by
 obtain ⟨i0,ji,a9,a3,aa⟩:=info_parts zX
 have K:∀ W,(sizeOf 170).run prog W=.ok 7 W:=fun W=>by simp [sizeOf,typeInfo,ji,a3]
 have E:prog.underlying 41=some (.slice 170):=by kernel_rfl
 have z:prog.elem 41=170:=by kernel_rfl
 have a0:(prog.info? 170).map (·.size)=some 7:=by rw [ji];simp [a3]
 have a2:∀ j u,c[j]?=some u->w.cell? ((⟨vb,0,none⟩:Addr).add j)=some u:=fun j u hu=>by
  rw [Addr.add_lit,Nat.zero_add,ae I];simpa using hu
 have ba:=lt_of_block I
 rcases Nat.lt_or_ge i X.length with a7|b4
 ·obtain ⟨b9,h0|⟨g,cap,cur,rfl,av,hg,b2,a5,a4,a1⟩⟩:=ho
  ·omega
  ·have aw:g≠vb:=fun h=>ax (by rw [h];rfl);have lg:=lt_of_block hg;have g0:¬ (i:Int)=(X.length:Int):=by omega
   have aT:((i:Int) == (X.length:Int))=false:=by simpa using g0
   have b8:X.length<=100000:=hn
   have b6:IntKind.i64.wrap ((i:Int)+1)=(i:Int)+1:=by rw [IntKind.wrap_i64];omega
   have b7:((i:Int)+1).toNat=i+1:=by omega
   have b3:(cap:Int)<=9223372036854775807:=by unfold maxLen at a5;omega
   rcases (show X.length+1<=cap\/cap=X.length by omega) with aA|au
   ·have g1:¬ (cap:Int)<(X.length:Int)+1:=by omega
    obtain ⟨W1,W2,aF,aH,aL,aS,ay,am,an,Y⟩:=zQ E z a0 K (by decide) (fun A W W' v h=>by rw [run_callFunc_extern func106 (by kernel_rfl) (by kernel_rfl) (by kernel_rfl) (e:=Extern.SlicesOverlaps.overlaps #[41,41] #[4]) (by kernel_rfl),h];rfl) Z U hc J hn I a7 aw av hg a5 a4 a1 aA;have HP:=KL Y;clear Y a1 hg U J a2 I a4 Z hc E z a0 K;go_in;go_wp2_with (simp only [ay])
    go_region_law (refine gE rfl _ _ 41 41 rfl _ _ (by simp [Act.eval,Act.put]) (by simp [Act.eval,Act.put]) am ?_)
    go_wp2_with (at_builtin;refine wpList_copyK _ rfl _ _ 41 41 rfl _ _ rfl rfl an ?_);refine LN (v:=.slice (some ⟨g,0,none⟩) (X.length+1) cap) ?_ rfl HP.out;simp [results,results67,go_sem, *]
   ·subst au;have g1:(X.length:Int)<(X.length:Int)+1:=by omega
    obtain ⟨G,W1,W2,W3,b1,b0,aF,aH,al,aL,aS,ao,ar,Y⟩:=zR E z ji a9 a3 aa (by decide) rfl K (by decide) Z U hc J hn I a7 hB hg a1;have HP:=KL Y;clear Y a1 hg U J a2 I a4 Z hc E z a0 K;go_in;go_wp2_with (at_builtin;first|(refine iJ _ rfl _ _ 41 3 rfl _ _ rfl rfl al ?_)|(refine wpList_copyK _ rfl _ _ 41 41 rfl _ _ rfl rfl ao ?_))
    go_region_law (refine gE rfl _ _ 41 41 rfl _ _ (by simp [Act.eval,Act.put]) (by simp [Act.eval,Act.put]) ar ?_)
    go_wp2;refine LN (v:=.slice (some ⟨w.heap.size,0,none⟩) (X.length+1) G) ?_ rfl HP.out;simp [results,results67,go_sem, *]
 ·obtain rfl:i=X.length:=by omega
  have HO:=KL ho;obtain ⟨a,cap,rfl,_,_⟩:=aE ho
  obtain ⟨u0,b5⟩:∃ u,∀ W,(Instr.slice 41 (.slice a X.length cap) (some (.int .i64 (X.length:Int))) none none).run prog W=.ok u W:=⟨_,fun W=>by
   rw [run_slice_l W 41 _ _ _ (z.symm ▸ E) .i64 _ (by omega) (by omega),z,K];rfl⟩
  have HN:=KL a2;have ab:=KL J;have HIn:=KL (rN X c);have ag:=KL E;clear ho a2 J U Z I E z a0 K;go_in;go_wp2_with (at_builtin;go_loud (refine fU _ rfl _ _ 41 rfl B 170 i0 (.agg #[.int .i64 0,.int .i64 0,.int .i64 0,.int .i64 0,.bool false,.int .i64 0,.int .i64 0]) 7 56 ag.out ji a9 a3 aa rfl (by decide) _ X.length X.flatten rfl HO.out ⟨vb,0,none⟩ 1 1 c rfl (by rw [hc]) HN.out ab.out (Nat.zero_lt_one) ?c2 ?c3 hB ?_))
  case c2=>unfold maxLen;omega
  case c3=>omega
  intro v' w' hown' a6 a8
  have af:Hid (w'.ownsRow B 170 7 v' (X.length+1) (eB X X.length c).flatten):=by
   exact Q99
  have ac:=KL a6;have ad:=KL a8;obtain ⟨a',ak,rfl,_,_⟩:=aE hown';clear hown' a6 a8;go_wp2;refine LN (v:=.slice a' (X.length+1) ak) ?_ rfl ⟨_,rfl,af.out,ac.out,ad.out⟩;simp [results,results67,go_sem, *]
end
end Go.Proofs.YtennppmadmgfoaaGreatDoor
