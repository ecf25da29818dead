/- Texts of the row's proof. Conditions: none. -/
import Derived.Test.YtfliffgmeobclaaGreatCTpZ
namespace Go.Proofs.YtfliffgmeobclaaGreat
set_option maxRecDepth 100000
set_option maxHeartbeats 8000000
open Go.RowKit
structure StpR (R:Wd→Wd→List Out→Prop):Prop where
 nil:∀ X,R X X []
 app:∀ X Y Z A B,R X Y A→R Y Z B→R X Z (A++B)
 en:∀ X i k y,GwMay X→i<X.flows.length→(k=6∨k=7)→R X (gQ X i k y).1 (gQ X i k y).2
 fa:∀ X i why,GwMay X→i<X.flows.length→R X (eU X i why).1 (eU X i why).2
variable {R:Wd→Wd→List Out→Prop}
theorem StpR.due (hR:StpR R):∀ (S:List Int) (P:Wd×List Out),GwMay P.1→S.Nodup→(∀ s∈S,∃ f∈P.1.flows,f.slot=s)→∃ O,(S.foldl lX P).2=P.2++O∧R P.1 (S.foldl lX P).1 O
 | [],P,_,_,_=>⟨[],by simp,hR.nil _⟩
 | s :: S,P,h,hn,hS=>by
  rw [List.nodup_cons] at hn
  have hf:=mH h (hS s (If ..))
  have h1:=DH h hf
  obtain ⟨O2,e2,r2⟩:=hR.due S (lX P s) (DJ h hf) hn.2 (fun t ht=>by
   obtain ⟨f,hfm,hfs⟩:=hS t (Ih _ ht)
   exact ⟨f,h1.ke f hfm (fun e=>hn.1 (by rw [← e,hfs];exact ht)),hfs⟩)
  have h3:∃ O,(lX P s).2=P.2++O∧R P.1 (lX P s).1 O:=by
   unfold lX
   split
   ·exact ⟨_,rfl,hR.en _ _ _ _ h hf.2 (Or.inl rfl)⟩
   ·exact ⟨_,rfl,hR.fa _ _ _ h hf.2⟩
  obtain ⟨O1,e1,r1⟩:=h3
  exact ⟨O1++O2,by rw [List.foldl_cons,e2,e1,List.append_assoc],by rw [List.foldl_cons];exact hR.app _ _ _ _ _ r1 r2⟩
theorem StpR.cut (hR:StpR R):∀ (S:List Int) (P:Wd×List Out),GwMay P.1→S.Nodup→(∀ s∈S,∃ f∈P.1.flows,f.slot=s)→∃ O,(S.foldl oL P).2=P.2++O∧R P.1 (S.foldl oL P).1 O
 | [],P,_,_,_=>⟨[],by simp,hR.nil _⟩
 | s :: S,P,h,hn,hS=>by
  rw [List.nodup_cons] at hn
  have hf:=mH h (hS s (If ..))
  have h1:=DM h hf
  obtain ⟨O2,e2,r2⟩:=hR.cut S (oL P s) (DO h hf) hn.2 (fun t ht=>by
   obtain ⟨f,hfm,hfs⟩:=hS t (Ih _ ht)
   exact ⟨f,(h1.fl f).2 ⟨hfm,(fun e=>hn.1 (by rw [← e,hfs];exact ht))⟩,hfs⟩)
  have r1:R P.1 (oL P s).1 (gQ P.1 (eY P.1 s) 6 2).2:=hR.en _ _ _ _ h hf.2 (Or.inl rfl)
  exact ⟨(gQ P.1 (eY P.1 s) 6 2).2++O2,by rw [List.foldl_cons,e2];unfold oL;rw [List.append_assoc],by rw [List.foldl_cons];exact hR.app _ _ _ _ _ r1 r2⟩
theorem StpR.drain (hR:StpR R):∀ (L:List Lf) (P:Wd×List Out),GwMay P.1→∃ O,(L.foldl gb P).2=P.2++O∧R P.1 (L.foldl gb P).1 O
 | [],P,_=>⟨[],by simp,hR.nil _⟩
 | x :: L,P,h=>by
  obtain ⟨O2,e2,r2⟩:=hR.drain L (gb P x) (Bl h x).gw
  have h3:∃ O,(gb P x).2=P.2++O∧R P.1 (gb P x).1 O:=by
   unfold gb
   split
   ·exact ⟨[],by simp,hR.nil _⟩
   ·exact hR.cut _ _ h (nT _ _) fun s hs=>by
     obtain ⟨f,hf,_,hfs⟩:=(nd h).1 hs
     exact ⟨f,hf,hfs⟩
  obtain ⟨O1,e1,r1⟩:=h3
  exact ⟨O1++O2,by rw [List.foldl_cons,e2,e1,List.append_assoc],by rw [List.foldl_cons];exact hR.app _ _ _ _ _ r1 r2⟩
theorem StpR.tick (hR:StpR R) {X:Wd} (h:WdMay X) (hn:X.now<1099511626776) (h0:R X (iU X) []):R X (jc X).1 (jc X).2:=by
 obtain ⟨O1,e1,r1⟩:=hR.due (eN X) (iU X,[]) (Ab h hn) (rY h.gw) (fun s hs=>by
  obtain ⟨f,hf,_,hfs⟩:=(tL h.gw).1 hs
  exact ⟨f,by rw [(k9 X).1];exact hf,hfs⟩)
 obtain ⟨O2,e2,r2⟩:=hR.drain (bV X).1.lives (bV X) (mO h hn).gw
 have e3:(jc X).2=O1++O2:=by
  show ((bV X).1.lives.foldl gb (bV X)).2=_
  rw [e2]
  show ((eN X).foldl lX (iU X,[])).2++O2=_
  rw [e1];rfl
 rw [e3]
 have h9:=hR.app _ _ _ _ _ h0 (hR.app _ _ _ _ _ r1 r2)
 rw [List.nil_append] at h9
 exact h9
end Go.Proofs.YtfliffgmeobclaaGreat
