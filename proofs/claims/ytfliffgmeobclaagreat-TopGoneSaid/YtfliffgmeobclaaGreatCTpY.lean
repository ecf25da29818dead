/- Texts of the row's proof. Conditions: none. -/
import Derived.Test.YtfliffgmeobclaaGreatK43
namespace Go.Proofs.YtfliffgmeobclaaGreat
set_option maxRecDepth 100000
set_option maxHeartbeats 8000000
open Go.RowKit
structure GRo (p o:Nat) (w:World) (X:Wd) (V:Vs):Prop where
 wa:WA w X V
 lt:p<w.heap.size
 c:∀ i v,(dj X V)[i]?=some v→w.cell? ⟨p,o+i,none⟩=some v
theorem GRo.rg {p o:Nat} {w:World} {X:Wd} {V:Vs} (h:GRo p o w X V):w.rangeAt p o (dj X V):=fun j v hj=>h.c j v hj
theorem GRo.below {p o:Nat} {w w':World} {X:Wd} {V:Vs} (h:GRo p o w X V) (hb:Below w.heap.size w w'):GRo p o w' X V:=
 ⟨h.wa.below hb,Nat.lt_of_lt_of_le h.lt hb.size,fun i v hv=>(hb.cell (p:=⟨p,o+i,none⟩) h.lt).trans (h.c i v hv)⟩
theorem GRo.fn {p o:Nat} {w:World} {X:Wd} {V:Vs} (h:GRo p o w X V):∃ al cl,w.cell? ⟨p,o+18,none⟩=some (.slice al X.flows.length cl):=by
 obtain ⟨al,cl,el,_⟩:=aq h.wa.fl
 exact ⟨al,cl,by rw [← el];exact h.c 18 _ rfl⟩
theorem GRo.rn {p o:Nat} {w:World} {X:Wd} {V:Vs} (h:GRo p o w X V):∃ al cl,w.cell? ⟨p,o+20,none⟩=some (.slice al X.reqs.length cl):=by
 obtain ⟨al,cl,el,_⟩:=aq h.wa.ro.re.1
 exact ⟨al,cl,by rw [← el];exact h.c 20 _ rfl⟩
theorem step_be {K:Nat→Prop} {w w2:World} {b:Nat} {s:Stp} {m:Ms} (h:StW K w s m) (hb:Below w.heap.size w w2) (hk:w2.heap[b]?=some (.cells (mg s m).toArray 81 (0,0))):GRo b 8 w2 s.be m.b:=by
 refine ⟨h.b.wa.below hb,lt_of_block hk,fun i v hv=>?_⟩
 rw [ae hk (8+i),I0]
 unfold mg
 have hi:i<(dj s.be m.b).length:=by
  rcases Nat.lt_or_ge i (dj s.be m.b).length with g|g
  ·exact g
  ·rw [Id g] at hv;cases hv
 rw [Iv (by simp [Ev.cells]),show 8+i - (Ev.cells s.ev).length=i by simp [Ev.cells],Iu hi]
 exact hv
theorem step_af {K:Nat→Prop} {w w2:World} {b:Nat} {s:Stp} {m:Ms} (h:StW K w s m) (hb:Below w.heap.size w w2) (hk:w2.heap[b]?=some (.cells (mg s m).toArray 81 (0,0))):GRo b 34 w2 s.af m.a:=by
 refine ⟨h.a.wa.below hb,lt_of_block hk,fun i v hv=>?_⟩
 rw [ae hk (34+i),I0]
 unfold mg
 have hi:i<(dj s.af m.a).length:=by
  rcases Nat.lt_or_ge i (dj s.af m.a).length with g|g
  ·exact g
  ·rw [Id g] at hv;cases hv
 have h8:(Ev.cells s.ev).length=8:=rfl
 have h26:=iT s.be m.b
 rw [Iv (by omega),Iv (by omega),show 34+i - (Ev.cells s.ev).length - (dj s.be m.b).length=i by omega,Iu hi]
 exact hv
theorem step_out {K:Nat→Prop} {w w2:World} {b:Nat} {s:Stp} {m:Ms} (h:StW K w s m) (hb:Below w.heap.size w w2) (hk:w2.heap[b]?=some (.cells (mg s m).toArray 81 (0,0))) :
  ∃ ao co,w2.cell? ⟨b,60,none⟩=some (.slice ao s.out.length co)∧(s.out.length≠0→∃ bo oo,ao=some ⟨bo,oo,none⟩∧bo<w2.heap.size∧∀ k j,k<s.out.length→j<7→w2.cell? ⟨bo,oo+k*7+j,none⟩=(s.out.getD k Out.zero).cells[j]?):=by
 have hr:=au h.o.1 hb
 obtain ⟨a,c,e,_,_,_,pt⟩:=aK Out.zero hr
 refine ⟨a,c,by rw [ae hk 60,← e];rfl,fun hne=>?_⟩
 obtain ⟨b1,o1,e1,h1,q⟩:=pt (by intro e;rw [e] at hne;simp at hne)
 exact ⟨b1,o1,e1,h1,q⟩
end Go.Proofs.YtfliffgmeobclaaGreat
