/- Texts of the row's proof. Conditions: none. -/
import Derived.Test.YtocbhafgjepnjaaGreatETpO
namespace Go.Proofs.YtocbhafgjepnjaaGreat
set_option maxRecDepth 100000
set_option maxHeartbeats 8000000
open Go.RowKit
def HUp (X:Wd):Prop:=∀ i,i<12→(X.health.getD i Ht.zero).out=true→(X.health.getD i Ht.zero).until_≤X.now+500
theorem HUp.same {X Y:Wd} (h:HUp X) (he:Y.health=X.health) (hn:Y.now=X.now):HUp Y:=fun i hi ho=>by rw [he] at ho ⊢;rw [hn];exact h i hi ho
theorem note_up {X:Wd} (h:HUp X) (hw:1≤X.cf.wh) (b:Nat) (f:Bool):HUp (bO X b f):=by
 intro i hi ho
 show ((bO X b f).health.getD i Ht.zero).until_≤X.now+500
 by_cases hb:b<X.health.length
 ·have hg:(bO X b f).health.getD i Ht.zero=if b=i then iV X.cf (X.health.getD b Ht.zero) f X.now (BU X && gp X.lives b == 2) else X.health.getD i Ht.zero:=cJ hb
  rw [hg] at ho ⊢
  by_cases e:b=i
  ·subst e
   rw [if_pos rfl] at ho ⊢
   unfold iV at ho ⊢
   split
   ·have:=(DQ (t:=(X.health.getD b Ht.zero).times) hw).2
    simp only;omega
   ·rename_i hc
    rw [if_neg hc] at ho
    exact h b hi ho
  ·rw [if_neg e] at ho ⊢
   exact h i hi ho
 ·have e:(bO X b f).health=X.health:=List.set_eq_of_length_le (by omega)
  rw [e] at ho ⊢
  exact h i hi ho
theorem end_h (X:Wd) (i:Nat) (k y:Int):(g9 X i k y).1.health=X.health∧(g9 X i k y).1.now=X.now:=spared_h _ _
theorem end_up {X:Wd} (h:HUp X) (i:Nat) (k y:Int):HUp (g9 X i k y).1:=h.same (end_h X i k y).1 (end_h X i k y).2
theorem fail_up {X:Wd} (h:HUp X) (hw:1≤X.cf.wh) (i:Nat) (why:Int):HUp (eu X i why).1:=by
 have hN:=note_up h hw (X.flows.getD i Fl.zero).backend.toNat true
 unfold eu
 simp only
 split
 ·exact end_up hN _ _ _
 ·split
  ·exact end_up hN _ _ _
  ·split
   ·exact hN.same rfl rfl
   ·exact hN.same (spared_h _ _).1 (spared_h _ _).2
theorem due_up {P:Wd×List Out} (h:HUp P.1) (hw:1≤P.1.cf.wh) (s:Int):HUp (ja P s).1:=by
 unfold ja
 split
 ·exact end_up h _ 6 1
 ·exact fail_up h hw _ _
theorem due_ups:∀ (S:List Int) (P:Wd×List Out),HUp P.1→1≤P.1.cf.wh→HUp (S.foldl ja P).1
 | [],_,h,_=>h
 | s :: S,P,h,hw=>by rw [List.foldl_cons];exact due_ups S _ (due_up h hw s) (by rw [due_cf];exact hw)
theorem cut_ups:∀ (S:List Int) (P:Wd×List Out),HUp P.1→HUp (S.foldl lX P).1
 | [],_,h=>h
 | s :: S,P,h=>by rw [List.foldl_cons];exact cut_ups S _ (end_up h _ 6 2)
theorem drain_ups:∀ (L:List Lf) (P:Wd×List Out),HUp P.1→HUp (L.foldl eO P).1
 | [],_,h=>h
 | x :: L,P,h=>by
  rw [List.foldl_cons]
  refine drain_ups L _ ?_
  unfold eO
  split
  ·exact h
  ·exact cut_ups _ _ h
theorem tick_up {X:Wd} (g:GwMay X) (h:HUp X):HUp (gX X).1:=by
 have hw:1≤X.cf.wh:=g.cf.2.2.2.2.2.2.1
 have h2:HUp (fS X):=by
  intro i hi ho
  have hl1:(cu X).health.length=12:=by rw [uI];exact g.hl
  have hn:(cu X).now=X.now+1:=by rw [iv X];rfl
  have e:(fS X).health.getD i Ht.zero=fE (X.now+1) ((cu X).health.getD i Ht.zero):=by
   unfold fS
   simp only
   rw [jq _ (by omega) Ht.zero,hn]
  rw [(iR X).2.1]
  rw [e] at ho ⊢
  unfold fE at ho ⊢
  by_cases hc:((cu X).health.getD i Ht.zero).out=true∧((cu X).health.getD i Ht.zero).until_≤X.now+1
  ·rw [if_pos hc] at ho;simp at ho
  ·rw [if_neg hc] at ho ⊢
   rcases pn i (dq X) (bL X) with k|k
   ·have k':(cu X).health.getD i Ht.zero=X.health.getD i Ht.zero:=k
    rw [k'] at ho ⊢
    have:=h i hi ho
    omega
   ·have k':(cu X).health.getD i Ht.zero=Ht.zero:=k
    rw [k'] at ho;exact absurd ho (by decide)
 unfold gX ca
 exact drain_ups _ _ (due_ups _ _ h2 (by rw [Cl];exact hw))
theorem flow_up {X:Wd} (g:GwMay X) (h:HUp X) (e:Ev):HUp (ez X e).1:=by
 have hw:1≤X.cf.wh:=g.cf.2.2.2.2.2.2.1
 unfold ez
 split
 ·exact h
 ·split
  ·exact end_up h _ _ _
  ·split
   ·simp only
    split
    ·exact h.same rfl rfl
    ·exact h
   ·split
    ·exact h
    ·split
     ·exact (note_up (X:=gZ X (eV X e.slot)) (h.same rfl rfl) hw _ false).same rfl rfl
     ·exact fail_up h hw _ _
theorem do_up {X:Wd} (g:GwMay X) (h:HUp X) (e:Ev):HUp (ib X e).1:=by
 unfold ib
 split
 ·unfold ep
  split
  ·exact h
  ·split
   ·exact h
   ·exact h.same rfl rfl
 ·split
  ·unfold oL jb
   simp only
   split
   ·exact h.same rfl rfl
   ·split
    ·exact h.same rfl rfl
    ·exact h.same (spared_h _ _).1 (spared_h _ _).2
  ·split
   ·exact tick_up g h
   ·exact flow_up g h e
end Go.Proofs.YtocbhafgjepnjaaGreat
