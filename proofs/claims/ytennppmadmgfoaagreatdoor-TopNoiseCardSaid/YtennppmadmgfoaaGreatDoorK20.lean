/- Texts of the row's proof. Conditions: none. -/
import Derived.Shelf.GgSortFunc.InsertionK
import Derived.Test.YtennppmadmgfoaaGreatDoorK02
namespace Go.Proofs.YtennppmadmgfoaaGreatDoor
set_option maxRecDepth 100000
set_option maxHeartbeats 8000000
section
open Go.RowKit Go.Shelf Go.Sort
section
variable {α:Type} [Inhabited α]
theorem Bu {enc:α->List Value} {k:Nat} (I:∀ x,(enc x).length=k) (X:List α) (t:Nat) (K:t<X.length*k):(X.map enc).flatten[t]?=some (enc (X.toArray[t / k]!))[t % k]!:=by
 have Y:0<k:=by
  rcases Nat.eq_zero_or_pos k with h|h
  ·subst h;simp at K
  ·exact h
 have z:t / k<X.length:=by rw [Nat.div_lt_iff_lt_mul Y];exact K
 have E:t % k<k:=Nat.mod_lt _ Y;have Z:t=t / k*k+t % k:=(Nat.div_add_mod' t k).symm
 have hl:∀ J∈X.map enc,J.length=k:=by intro J W;simp only [LH] at W;obtain ⟨x,_,rfl⟩:=W;exact I x
 have U:=fy hl (t / k) (t % k) (by simpa using z) E;rw [<- Z] at U;rw [U];have h2:(X.map enc).getD (t / k) []=enc X[t / k]:=by simp [List.getD,z]
 have h3:X.toArray[t / k]! = X[t / k]:=by simp [getElem!_pos,z]
 rw [h2,h3,Lj (by rw [I];exact E),getElem!_pos _ _ (by rw [I];exact E)]
theorem zC {enc:α->List Value} {k:Nat} (U:∀ x,(enc x).length=k) {w:World} {base:Nat} {e:TypeId} {g n I:Nat} {X:List α} (E:w.ownsRow base e k (.slice (some ⟨g,0,none⟩) n I) n (X.map enc).flatten) (W:X.length=n) :
  HoldsK enc k w g 0 X.toArray:=by
 intro h K
 have z:h<X.length*k:=by simpa using K
 have J:=E.cellAt h (by rw [<- W];exact z)
 refine ⟨?_,by rw [Nat.zero_add];exact E.frozenAt _⟩
 rw [Nat.zero_add,J,Bu U X h z,get_flatK enc k X.toArray h (by simpa using z)]
 rfl
theorem xA {enc:α->List Value} {k:Nat} (hk:∀ x,(enc x).length=k) {w:World} {base:Nat} {e:TypeId} {g n cap m:Nat} {X Y:List α} {os:Array Obj} (h:w.ownsRow base e k (.slice (some ⟨g,0,none⟩) n cap) n (X.map enc).flatten) (hY:Y.length=n) :
  (sortWorldK enc k w g 0 m Y.toArray os).ownsRow base e k (.slice (some ⟨g,0,none⟩) n cap) n (Y.map enc).flatten:=by
 have hl:∀ c∈Y.map enc,c.length=k:=by intro c hc;simp only [LH] at hc;obtain ⟨x,_,rfl⟩:=hc;exact hk x
 have hf:(Y.map enc).flatten.length=n*k:=by rw [aP hl,Lh,hY]
 rcases h.2 with ⟨e0,_⟩|⟨g',cap',cur,e0,hb,hg,hn,hm,hs,ht⟩
 ·cases e0
 ·injection e0 with e1 _ e3;injection e1 with e1;injection e1 with e1;subst e1;subst e3
  have hlt:g<w.heap.size:=by
   rcases Nat.lt_or_ge g w.heap.size with h'|h'
   ·exact h'
   ·rw [Array.getElem?_eq_none h'] at hg
    cases hg
  have hnk:n*k<=cap*k:=Lt _ hn;refine ⟨hf,.inr ⟨g,cap,putCells id 0 (Go.Sort.flatK enc k Y.toArray) cur,rfl,hb,?_,hn,hm,by simpa [putCells] using hs,?_⟩⟩
  ·show (grow (putRowK enc k (Go.Sort.ahead w m) g 0 Y.toArray) os).heap[g]?=_
   unfold grow putRowK putRow mapBlock Go.Sort.ahead;simp only;rw [Array.getElem?_append_left (by simpa using hlt)];simp [Array.getElem?_modify,hg,onCells]
  ·apply List.ext_getElem?;intro j;rw [List.getElem?_take,LV];by_cases hj:j<n*k
   ·have hjc:j<cur.size:=by omega
    rw [if_pos hj,Bu hk Y j (by rw [hY];exact hj)];simp only [putCells,Array.getElem?_mapIdx,Array.getElem?_eq_getElem hjc,Option.map_some];rw [if_pos (by simp [hY];exact hj),Nat.sub_zero,get_flatK enc k Y.toArray j (by simp [hY];exact hj)]
    rfl
   ·rw [if_neg hj,Lu (by omega)]
theorem pE {enc:α->List Value} {k m B:Nat} {E w:World} {g:Nat} {d:Array α} {J:Array Obj} (h:Below B E w) (K:B<=g) (U:g<w.heap.size):Below B E (sortWorldK enc k w g 0 m d J):=by
 unfold sortWorldK grow putRowK putRow mapBlock Go.Sort.ahead;refine ⟨h.os,h.tape,h.output,?_,fun z I=>?_⟩
 ·have:=h.size;simp;omega
 ·have W:=h.size;by_cases hlt:z<w.heap.size
  ·simp only;rw [Array.getElem?_append_left (by simpa using hlt),<- h.block z I];simp [Array.getElem?_modify,show g≠z by omega]
  ·omega
theorem Du {enc:α->List Value} {k m j:Nat} {w:World} {g:Nat} {d:Array α} {z:Array Obj} (h:j<w.heap.size) (E:j≠g):(sortWorldK enc k w g 0 m d z).heap[j]?=w.heap[j]?:=by
 unfold sortWorldK grow putRowK putRow mapBlock Go.Sort.ahead;simp only;rw [Array.getElem?_append_left (by simpa using h)];simp [Array.getElem?_modify,show g≠j by omega]
end
end
end Go.Proofs.YtennppmadmgfoaaGreatDoor
