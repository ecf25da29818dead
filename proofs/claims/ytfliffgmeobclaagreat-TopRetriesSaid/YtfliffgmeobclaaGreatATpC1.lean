/- Texts of the row's proof. Conditions: none. -/
import Derived.Test.YtfliffgmeobclaaGreatATpZ
namespace Go.Proofs.YtfliffgmeobclaaGreat
set_option maxRecDepth 100000
set_option maxHeartbeats 8000000
open Go.RowKit
def kc (k:Int) (O:List Out):Nat:=O.countP fun o=>o.kind == k
theorem kc_app (k:Int) (A B:List Out):kc k (A++B)=kc k A+kc k B:=List.countP_append
theorem kc_cons (k:Int) (o:Out) (O:List Out):kc k (o :: O)=kc k O+if o.kind=k then 1 else 0:=by
 unfold kc
 rw [List.countP_cons]
 by_cases h:o.kind=k<;>simp [h]
theorem kc_no {k:Int} {O:List Out} (h:∀ o∈O,o.kind≠k):kc k O=0:=by
 unfold kc
 rw [List.countP_eq_zero]
 intro o ho
 simpa using h o ho
theorem spared_k9 {X:Wd} {b:Int}:(bZ X b).1.tok=X.tok∧(bZ X b).1.cf=X.cf∧∀ o∈(bZ X b).2,o.kind=9:=by
 unfold bZ
 cases hl:dt X.lives b with
 | none=>exact ⟨rfl,rfl,fun o h=>absurd h (by simp)⟩
 | some x=>
  simp only
  split
  ·exact ⟨rfl,rfl,fun o h=>by simp only [List.mem_singleton] at h;rw [h]⟩
  ·exact ⟨rfl,rfl,fun o h=>absurd h (by simp)⟩
theorem end_k {X:Wd} {i:Nat} {k y:Int}:(gQ X i k y).1.tok=X.tok∧(gQ X i k y).1.cf=X.cf∧∀ o∈(gQ X i k y).2,o.kind=k∨o.kind=9:=by
 unfold gQ
 have h:=spared_k9 (X:=jq X i (eK X.tab (X.flows.getD i Fl.zero))) (b:=(X.flows.getD i Fl.zero).backend)
 refine ⟨h.1,h.2.1,fun o ho=>?_⟩
 rcases List.mem_cons.1 ho with e|e
 ·left;rw [e]
 ·right;exact h.2.2 o e
structure Tk (X Y:Wd) (O:List Out):Prop where
 cf:Y.cf=X.cf
 t:Y.tok+(kc 5 O:Nat)*X.cf.bd≤X.tok
 a:kc 1 O=0
theorem end_tk (X:Wd) (i:Nat) {k:Int} (y:Int) (hk:k=6∨k=7):Tk X (gQ X i k y).1 (gQ X i k y).2:=by
 have h:=end_k (X:=X) (i:=i) (k:=k) (y:=y)
 have h5:kc 5 (gQ X i k y).2=0:=kc_no fun o ho=>by rcases h.2.2 o ho with e|e<;>omega
 refine ⟨h.2.1,by rw [h5,h.1];simp,kc_no fun o ho=>by rcases h.2.2 o ho with e|e<;>omega⟩
theorem fail_tk (X:Wd) (i:Nat) (why:Int):Tk X (eU X i why).1 (eU X i why).2:=by
 have hn:∀ Y O,Tk (bU X (X.flows.getD i Fl.zero).backend.toNat true) Y O→Tk X Y O:=fun Y O h=>⟨h.cf,h.t,h.a⟩
 unfold eU
 simp only
 split
 ·exact hn _ _ (end_tk _ _ _ (Or.inl rfl))
 ·split
  ·exact hn _ _ (end_tk _ _ _ (Or.inl rfl))
  ·split
   ·refine ⟨rfl,?_,?_⟩
    ·rw [kc_cons];show X.tok - X.cf.bd+_≤X.tok;simp [kc]
    ·rw [kc_cons];simp [kc]
   ·have h:=spared_k9 (X:=iJ (bU X (X.flows.getD i Fl.zero).backend.toNat true) i (dC (bU X (X.flows.getD i Fl.zero).backend.toNat true) (X.flows.getD i Fl.zero).key.toNat (X.flows.getD i Fl.zero).slot).1) (b:=(X.flows.getD i Fl.zero).backend)
    refine ⟨h.2.1,?_,?_⟩
    ·rw [kc_cons,h.1,kc_no (fun o ho=>by rw [h.2.2 o ho];decide)]
     show X.tok - X.cf.bd+_≤X.tok
     simp
    ·rw [kc_cons,kc_no (fun o ho=>by rw [h.2.2 o ho];decide)];simp
theorem Tk.app {X Y Z:Wd} {A B:List Out} (h:Tk X Y A) (k:Tk Y Z B):Tk X Z (A++B):=by
 refine ⟨k.cf.trans h.cf,?_,by rw [kc_app,h.a,k.a]⟩
 have h1:=h.t
 have h2:=k.t
 rw [h.cf] at h2
 rw [kc_app,Int.natCast_add,Int.add_mul]
 omega
theorem fold_tk {α:Type} {f:Wd×List Out→α→Wd×List Out} (hf:∀ P a,∃ O,(f P a).2=P.2++O∧Tk P.1 (f P a).1 O):∀ (L:List α) (P:Wd×List Out),∃ O,(L.foldl f P).2=P.2++O∧Tk P.1 (L.foldl f P).1 O
 | [],P=>⟨[],by simp,rfl,by simp [kc],rfl⟩
 | a :: L,P=>by
  rw [List.foldl_cons]
  obtain ⟨O1,e1,h1⟩:=hf P a
  obtain ⟨O2,e2,h2⟩:=fold_tk hf L (f P a)
  exact ⟨O1++O2,by rw [e2,e1,List.append_assoc],h1.app h2⟩
theorem tick_tk (X:Wd):Tk X (jc X).1 (jc X).2:=by
 have h0:(iU X).tok=X.tok∧(iU X).cf=X.cf:=by
  have hf:=lG X
  unfold iU
  simp only
  rw [hf]
  exact ⟨rfl,rfl⟩
 obtain ⟨O1,e1,h1⟩:=fold_tk (f:=lX) (fun P s=>by
  unfold lX
  split
  ·exact ⟨_,rfl,end_tk _ _ _ (Or.inl rfl)⟩
  ·exact ⟨_,rfl,fail_tk _ _ _⟩) (eN X) (iU X,[])
 obtain ⟨O2,e2,h2⟩:=fold_tk (f:=gb) (fun P x=>by
  unfold gb
  split
  ·exact ⟨[],by simp,rfl,by simp [kc],rfl⟩
  ·exact fold_tk (f:=oL) (fun P s=>⟨_,rfl,end_tk _ _ _ (Or.inl rfl)⟩) _ P) (bV X).1.lives (bV X)
 have e3:(jc X).2=O1++O2:=by
  show ((bV X).1.lives.foldl gb (bV X)).2=_
  rw [e2]
  show ((eN X).foldl lX (iU X,[])).2++O2=_
  rw [e1];rfl
 rw [e3]
 have h3:=h1.app h2
 exact ⟨h3.cf.trans h0.2,by have h4:=h3.t;simp only at h4;rw [h0.1,h0.2] at h4;exact h4,h3.a⟩
theorem do_tk (X:Wd) (e:Ev):(mP X e).1.tok+(kc 5 (mP X e).2:Nat)*X.cf.bd≤X.tok+(kc 1 (mP X e).2:Nat)*X.cf.bn∨X.cf.bn<0:=by
 rcases Int.lt_or_le X.cf.bn 0 with hb|hb
 ·exact Or.inr hb
 left
 have go:∀ Y O,Tk X Y O→Y.tok+(kc 5 O:Nat)*X.cf.bd≤X.tok+(kc 1 O:Nat)*X.cf.bn:=fun Y O h=>by
  rw [h.a];have:=h.t;simp;exact this
 have same:∀ O,(∀ o∈O,o.kind≠5)→(∀ o∈O,o.kind≠1)→Tk X X O:=fun O h5 h1=>⟨rfl,by rw [kc_no h5];simp,kc_no h1⟩
 unfold mP
 split
 ·unfold gj
  split
  ·exact go _ _ (same _ (by simp) (by simp))
  ·split
   ·exact go _ _ (same _ (by simp) (by simp))
   ·show min (X.tok+X.cf.bn) (X.cf.bb*X.cf.bd)+_≤_
    have h5:∀ s g b,kc 5 [(⟨1,s,g,b,0,0,0⟩:Out)]=0:=fun s g b=>by simp [kc]
    have h1:∀ s g b,kc 1 [(⟨1,s,g,b,0,0,0⟩:Out)]=1:=fun s g b=>by simp [kc]
    rw [h5,h1]
    simp
    omega
 ·split
  ·have h9:∀ o∈(uh X e).2,o.kind=8∨o.kind=9:=fun o ho=>zE ho
   have ht:(uh X e).1.tok=X.tok:=by
    unfold uh jF
    simp only
    split
    ·rfl
    ·split
     ·rfl
     ·exact spared_k9.1
   have hc:(uh X e).1.cf=X.cf:=by
    unfold uh jF
    simp only
    split
    ·rfl
    ·split
     ·rfl
     ·exact spared_k9.2.1
   exact go _ _ ⟨hc,by rw [ht,kc_no (fun o ho=>by rcases h9 o ho with g|g<;>omega)];simp,kc_no (fun o ho=>by rcases h9 o ho with g|g<;>omega)⟩
  ·split
   ·exact go _ _ (tick_tk X)
   ·unfold fj
    split
    ·exact go _ _ (same _ (by simp) (by simp))
    ·split
     ·exact go _ _ (end_tk _ _ _ (Or.inr rfl))
     ·split
      ·refine go _ _ ⟨by split<;>rfl,?_,by simp [kc]⟩
       have h5:∀ s g b,kc 5 [(⟨3,s,g,b,0,0,0⟩:Out)]=0:=fun s g b=>by simp [kc]
       rw [h5]
       split<;>simp [mD]
      ·split
       ·exact go _ _ (same _ (by simp) (by simp))
       ·split
        ·have h5:∀ s g b,kc 5 [(⟨4,s,g,b,0,0,0⟩:Out)]=0:=fun s g b=>by simp [kc]
         refine go _ _ ⟨rfl,?_,by simp [kc]⟩
         rw [h5]
         simp [mD,bU,iV]
        ·exact go _ _ (fail_tk _ _ _)
end Go.Proofs.YtfliffgmeobclaaGreat
