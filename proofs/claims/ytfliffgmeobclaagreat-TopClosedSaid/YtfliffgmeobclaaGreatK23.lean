/- Texts of the row's proof. Conditions: none. -/
import Derived.Shelf.GgSortFunc.InsertionK
import Derived.Test.YtfliffgmeobclaaGreatK02
namespace Go.Proofs.YtfliffgmeobclaaGreat
set_option maxRecDepth 100000
set_option maxHeartbeats 8000000
section
open Go.RowKit Go.Shelf Go.Sort
section
variable {α:Type} [Inhabited α]
theorem zE {enc:α→List Value} {k:Nat} (hk:∀ x,(enc x).length=k) (X:List α) (t:Nat) (h:t<X.length*k):(X.map enc).flatten[t]?=some (enc (X.toArray[t / k]!))[t % k]!:=by
 have k0:0<k:=by
  rcases Nat.eq_zero_or_pos k with h'|h'
  ·subst h';simp at h
  ·exact h'
 have hi:t / k<X.length:=by rw [Nat.div_lt_iff_lt_mul k0];exact h
 have hj:t % k<k:=Nat.mod_lt _ k0;have e:t=t / k*k+t % k:=(Nat.div_add_mod' t k).symm
 have hl:∀ c∈X.map enc,c.length=k:=by intro c hc;simp only [It] at hc;obtain ⟨x,_,rfl⟩:=hc;exact hk x
 have h1:=fo hl (t / k) (t % k) (by simpa using hi) hj;rw [← e] at h1;rw [h1];have h2:(X.map enc).getD (t / k) []=enc X[t / k]:=by simp [List.getD,hi]
 have h3:X.toArray[t / k]! = X[t / k]:=by simp [getElem!_pos,hi]
 rw [h2,h3,Ib (by rw [hk];exact hj),getElem!_pos _ _ (by rw [hk];exact hj)]
theorem xV {enc:α→List Value} {k:Nat} (hk:∀ x,(enc x).length=k) {w:World} {base:Nat} {e:TypeId} {g n cap:Nat} {X:List α} (h:w.ownsRow base e k (.slice (some ⟨g,0,none⟩) n cap) n (X.map enc).flatten) (hn:X.length=n) :
  HoldsK enc k w g 0 X.toArray:=by
 intro j hj
 have hj':j<X.length*k:=by simpa using hj
 have h1:=h.cellAt j (by rw [← hn];exact hj')
 refine ⟨?_,by rw [Nat.zero_add];exact h.frozenAt _⟩
 rw [Nat.zero_add,h1,zE hk X j hj',get_flatK enc k X.toArray j (by simpa using hj')]
 rfl
theorem vq {enc:α→List Value} {k:Nat} (hk:∀ x,(enc x).length=k) {w:World} {base:Nat} {e:TypeId} {g n cap m:Nat} {X Y:List α} {os:Array Obj} (h:w.ownsRow base e k (.slice (some ⟨g,0,none⟩) n cap) n (X.map enc).flatten) (hY:Y.length=n) :
  (sortWorldK enc k w g 0 m Y.toArray os).ownsRow base e k (.slice (some ⟨g,0,none⟩) n cap) n (Y.map enc).flatten:=by
 have hl:∀ c∈Y.map enc,c.length=k:=by intro c hc;simp only [It] at hc;obtain ⟨x,_,rfl⟩:=hc;exact hk x
 have hf:(Y.map enc).flatten.length=n*k:=by rw [aO hl,I9,hY]
 rcases h.2 with ⟨e0,_⟩|⟨g',cap',cur,e0,hb,hg,hn,hm,hs,ht⟩
 ·cases e0
 ·injection e0 with e1 _ e3;injection e1 with e1;injection e1 with e1;subst e1;subst e3
  have hlt:g<w.heap.size:=by
   rcases Nat.lt_or_ge g w.heap.size with h'|h'
   ·exact h'
   ·rw [Array.getElem?_eq_none h'] at hg
    cases hg
  have hnk:n*k≤cap*k:=Ij _ hn;refine ⟨hf,.inr ⟨g,cap,putCells id 0 (Go.Sort.flatK enc k Y.toArray) cur,rfl,hb,?_,hn,hm,by simpa [putCells] using hs,?_⟩⟩
  ·show (grow (putRowK enc k (Go.Sort.ahead w m) g 0 Y.toArray) os).heap[g]?=_
   unfold grow putRowK putRow mapBlock Go.Sort.ahead;simp only;rw [Array.getElem?_append_left (by simpa using hlt)];simp [Array.getElem?_modify,hg,onCells]
  ·apply List.ext_getElem?;intro j;rw [List.getElem?_take,ID];by_cases hj:j<n*k
   ·have hjc:j<cur.size:=by omega
    rw [if_pos hj,zE hk Y j (by rw [hY];exact hj)];simp only [putCells,Array.getElem?_mapIdx,Array.getElem?_eq_getElem hjc,Option.map_some];rw [if_pos (by simp [hY];exact hj),Nat.sub_zero,get_flatK enc k Y.toArray j (by simp [hY];exact hj)]
    rfl
   ·rw [if_neg hj,Ik (by omega)]
theorem oB {enc:α→List Value} {k m B:Nat} {w0 w:World} {g:Nat} {d:Array α} {os:Array Obj} (h:Below B w0 w) (hg:B≤g) (hgl:g<w.heap.size):Below B w0 (sortWorldK enc k w g 0 m d os):=by
 unfold sortWorldK grow putRowK putRow mapBlock Go.Sort.ahead;refine ⟨h.os,h.tape,h.output,?_,fun j hj=>?_⟩
 ·have:=h.size;simp;omega
 ·have hs:=h.size;by_cases hlt:j<w.heap.size
  ·simp only;rw [Array.getElem?_append_left (by simpa using hlt),← h.block j hj];simp [Array.getElem?_modify,show g≠j by omega]
  ·omega
theorem Bn {enc:α→List Value} {k m j:Nat} {w:World} {g:Nat} {d:Array α} {os:Array Obj} (hj:j<w.heap.size) (hg:j≠g):(sortWorldK enc k w g 0 m d os).heap[j]?=w.heap[j]?:=by
 unfold sortWorldK grow putRowK putRow mapBlock Go.Sort.ahead;simp only;rw [Array.getElem?_append_left (by simpa using hj)];simp [Array.getElem?_modify,show g≠j by omega]
end
end
end Go.Proofs.YtfliffgmeobclaaGreat
