/- Texts of the row's proof. Conditions: none. -/
import Derived.Test.YtocbhafgjepnjaaGreatK43
namespace Go.Proofs.YtocbhafgjepnjaaGreat
set_option maxRecDepth 100000
set_option maxHeartbeats 8000000
open Go.RowKit
structure GRo (p o:Nat) (w:World) (X:Wd) (V:Vs):Prop where
 wa:WA w X V
 lt:p<w.heap.size
 c:∀ i v,(cQ X V)[i]?=some v→w.cell? ⟨p,o+i,none⟩=some v
theorem GRo.rg {p o:Nat} {w:World} {X:Wd} {V:Vs} (h:GRo p o w X V):w.rangeAt p o (cQ X V):=fun j v hj=>h.c j v hj
theorem GRo.below {p o:Nat} {w w':World} {X:Wd} {V:Vs} (h:GRo p o w X V) (hb:Below w.heap.size w w'):GRo p o w' X V:=
 ⟨h.wa.below hb,Nat.lt_of_lt_of_le h.lt hb.size,fun i v hv=>(hb.cell (p:=⟨p,o+i,none⟩) h.lt).trans (h.c i v hv)⟩
theorem GRo.hh {p o:Nat} {w:World} {X:Wd} {V:Vs} (h:GRo p o w X V) (h12:X.health.length=12):∃ bh oh ch,w.cell? ⟨p,o+22,none⟩=some (.slice (some ⟨bh,oh,none⟩) 12 ch)∧bh<w.heap.size∧∀ i j,i<12→j<4→w.cell? ⟨bh,oh+i*4+j,none⟩=(rD (V.m.getD i undef) (X.health.getD i Ht.zero))[j]?:=by
 obtain ⟨a,c,e,_,_,_,q⟩:=h.wa.he
 have hl:=dD h.wa.ro.ml
 rw [h12] at hl
 obtain ⟨b,o,rfl,hb,hq⟩:=q (by intro e;rw [e] at hl;simp at hl)
 rw [hl] at e
 exact ⟨b,o,c,by rw [← e];exact h.c 22 _ rfl,hb,fun i j hi hj=>by rw [hq i j (by omega) hj,il h.wa.ro.ml (by rw [h12];exact hi)]⟩
theorem zg {K:Nat→Prop} {w w2:World} {b:Nat} {s:Stp} {m:Ms} (h:StW K w s m) (hb:Below w.heap.size w w2) (hk:w2.heap[b]?=some (.cells (lc s m).toArray 62 (0,0))):GRo b 8 w2 s.be m.b:=by
 refine ⟨h.b.wa.below hb,lt_of_block hk,fun i v hv=>?_⟩
 rw [aa hk (8+i),Io]
 unfold lc
 have hi:i<(cQ s.be m.b).length:=by
  rcases Nat.lt_or_ge i (cQ s.be m.b).length with g|g
  ·exact g
  ·rw [IB g] at hv;cases hv
 rw [IS (by simp [Ev.cells]),show 8+i - (Ev.cells s.ev).length=i by simp [Ev.cells],IR hi]
 exact hv
theorem zh {K:Nat→Prop} {w w2:World} {b:Nat} {s:Stp} {m:Ms} (h:StW K w s m) (hb:Below w.heap.size w w2) (hk:w2.heap[b]?=some (.cells (lc s m).toArray 62 (0,0))):GRo b 34 w2 s.af m.a:=by
 refine ⟨h.a.wa.below hb,lt_of_block hk,fun i v hv=>?_⟩
 rw [aa hk (34+i),Io]
 unfold lc
 have hi:i<(cQ s.af m.a).length:=by
  rcases Nat.lt_or_ge i (cQ s.af m.a).length with g|g
  ·exact g
  ·rw [IB g] at hv;cases hv
 have h8:(Ev.cells s.ev).length=8:=rfl
 have h26:=fH s.be m.b
 rw [IS (by omega),IS (by omega),show 34+i - (Ev.cells s.ev).length - (cQ s.be m.b).length=i by omega,IR hi]
 exact hv
end Go.Proofs.YtocbhafgjepnjaaGreat
