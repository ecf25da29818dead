/- Texts of the row's proof. Conditions: none. -/
import Derived.Test.YtfliffgmeobclaaGreatCTpC3
namespace Go.Proofs.YtfliffgmeobclaaGreat
set_option maxRecDepth 100000
set_option maxHeartbeats 8000000
open Go.RowKit
def dq (L:List Lf):List Int:=(L.filter fun x=>x.state == 3).map Lf.request
def gq (O:List Out):List Int:=(O.filter fun o=>o.kind == 9).map Out.request
theorem gq_app (A B:List Out):gq (A++B)=gq A++gq B:=by unfold gq;rw [List.filter_append,Ij]
theorem gq_no {O:List Out} (h:∀ o∈O,o.kind≠9):gq O=[]:=by
 unfold gq
 rw [List.filter_eq_nil_iff.2 (fun o ho=>by simpa using h o ho)]
 rfl
theorem gq_cons {o:Out} (h:o.kind≠9) (O:List Out):gq (o :: O)=gq O:=by
 unfold gq
 rw [List.filter_cons,if_neg (by simpa using h)]
theorem dq_app (A B:List Lf):dq (A++B)=dq A++dq B:=by unfold dq;rw [List.filter_append,Ij]
theorem dq_cons (x:Lf) (L:List Lf):dq (x :: L)=if x.state=3 then x.request :: dq L else dq L:=by
 unfold dq
 rw [List.filter_cons]
 by_cases h:x.state=3<;>simp [h]
theorem dq_set {L:List Lf} {i:Nat} (hi:i<L.length) (y:Lf):∃ A B,dq L=A++(if (L.getD i Lf.zero).state=3 then [(L.getD i Lf.zero).request] else [])++B∧dq (L.set i y)=A++(if y.state=3 then [y.request] else [])++B:=by
 refine ⟨dq (L.take i),dq (L.drop (i+1)),?_,?_⟩
 ·have e:dq L=dq (L.take i++L.getD i Lf.zero :: L.drop (i+1)):=by rw [aN hi,List.getElem_cons_drop,Ig]
  rw [e,dq_app,dq_cons]
  split<;>simp
 ·rw [List.set_eq_take_append_cons_drop,if_pos hi,dq_app,dq_cons]
  split<;>simp
def GnR (X Y:Wd) (O:List Out):Prop:=(dq X.lives).Perm (dq Y.lives++gq O)
theorem gn_same {X Y:Wd} {O:List Out} (h:Y.lives=X.lives) (hO:∀ o∈O,o.kind≠9):GnR X Y O:=by
 unfold GnR
 rw [h,gq_no hO,List.append_nil]
theorem spared_gn (X:Wd) (b:Int):GnR X (bZ X b).1 (bZ X b).2:=by
 unfold bZ
 cases hl:dt X.lives b with
 | none=>exact gn_same rfl (by simp)
 | some x=>
  simp only
  split
  ·rename_i h
   rcases bJ (cE b) X.lives Lf.zero with ⟨e,hn⟩|⟨i,hi,e,_⟩
   ·exfalso
    rw [(fH X.lives b).1 e] at hl
    cases hl
   ·have hx:=(fH X.lives b).2 i e hi
    rw [hl] at hx
    cases hx
    unfold GnR
    simp only
    rw [vZ e]
    obtain ⟨A,B,e1,e2⟩:=dq_set hi (X.lives.getD i Lf.zero).done
    rw [e1,e2,if_pos h.1,if_neg (by show ¬ (4:Int)=3;decide)]
    simp only [List.append_nil,gq,List.filter_cons,beq_self_eq_true,if_true,List.filter_nil,List.map_cons,List.map_nil,List.append_assoc]
    exact List.Perm.append_left _ List.perm_append_comm
  ·exact gn_same rfl (by simp)
theorem GnR.cons {X Y:Wd} {O:List Out} (h:GnR X Y O) {o:Out} (ho:o.kind≠9):GnR X Y (o :: O):=by unfold GnR;rw [gq_cons ho];exact h
theorem end_gn (X:Wd) (i:Nat) {k:Int} (y:Int) (hk:k=6∨k=7):GnR X (gQ X i k y).1 (gQ X i k y).2:=by
 unfold gQ
 exact GnR.cons (spared_gn (jq X i _) _) (by show k≠9;omega)
theorem gn_stp:StpR GnR where
 nil X:=gn_same rfl (by simp)
 app X Y Z A B h k:=by
  unfold GnR at h k ⊢
  rw [gq_app]
  refine h.trans ((k.append_right _).trans ?_)
  rw [List.append_assoc]
  exact List.Perm.append_left _ List.perm_append_comm
 en X i k y _ _ hk:=end_gn X i y hk
 fa X i why _ _:=by
  have hn:∀ Y O,GnR (bU X (X.flows.getD i Fl.zero).backend.toNat true) Y O→GnR X Y O:=fun Y O h=>h
  unfold eU
  simp only
  split
  ·exact hn _ _ (end_gn _ _ _ (Or.inl rfl))
  ·split
   ·exact hn _ _ (end_gn _ _ _ (Or.inl rfl))
   ·split
    ·exact GnR.cons (gn_same rfl (by simp)) (by show (5:Int)≠9;decide)
    ·exact GnR.cons (spared_gn (iJ (bU X (X.flows.getD i Fl.zero).backend.toNat true) i _) _) (by show (5:Int)≠9;decide)
def grOf (X:Wd) (e:Ev):List Int:=if (e.kind=5∨e.kind=6)∧(wQ X e).nw=true∧(wQ X e).ans=0∧e.kind=6 then [e.request] else []
theorem jn_dq {L:List Lf} (r:Rq):dq (jnF L r).1=dq L:=by
 unfold jnF
 split
 ·rfl
 ·rcases bJ (cE r.backend) L Lf.zero with ⟨e,_⟩|⟨i,hi,e,_⟩
  ·rw [if_pos (by omega)]
   unfold eo
   simp only
   rw [dq_app,dq_cons,if_neg (by show ¬ (1:Int)=3;decide),← dq_app,Ig]
  ·rw [if_neg (by omega),e,I6]
   split
   ·rfl
   ·rename_i h4
    obtain ⟨A,B,e1,e2⟩:=dq_set hi (lh r)
    simp only
    rw [e1,e2,if_neg (by show ¬ (1:Int)=3;decide),if_neg (by have:=Decidable.not_not.1 h4;omega)]
theorem rt_cases (L:List Lf) (r:Rq) (now drain:Int):(∃ a,a≠0∧rtF L r now drain=(L,a))∨∃ i,i<L.length∧aQ (cE r.backend) L=(i:Int)∧(L.getD i Lf.zero).state≠3∧rtF L r now drain=(L.set i (jl (L.getD i Lf.zero) r now drain),0):=by
 unfold rtF
 rcases bJ (cE r.backend) L Lf.zero with ⟨e,_⟩|⟨i,hi,e,_⟩
 ·left;exact ⟨8,by decide,by rw [if_pos (by omega)]⟩
 ·rw [if_neg (by omega),e,I6]
  by_cases h4:(L.getD i Lf.zero).state=4
  ·left;exact ⟨8,by decide,by rw [if_pos h4]⟩
  ·rw [if_neg h4]
   by_cases h3:(L.getD i Lf.zero).state=3
   ·left;exact ⟨12,by decide,by rw [if_pos h3]⟩
   ·right;exact ⟨i,hi,rfl,h3,by rw [if_neg h3]⟩
theorem ask_gn {X:Wd} (e:Ev) (hk:e.kind=5∨e.kind=6):(dq X.lives++grOf X e).Perm (dq (uh X e).1.lives++gq (uh X e).2):=by
 obtain ⟨r,hr⟩:∃ r,r=reqE e:=⟨_,rfl⟩
 unfold grOf uh jF wQ
 rw [← hr]
 have hrb:r.backend=e.backend:=by rw [hr];rfl
 have hri:r.id=e.request:=by rw [hr];rfl
 have hrk:r.kind=fE e.kind:=by rw [hr];rfl
 unfold By
 split
 ·simp only
  rw [if_neg (by simp),if_pos (by simp)]
  simp [gq]
 ·split
  ·simp only
   rw [if_neg (by simp),if_pos (by simp)]
   simp [gq]
  ·split
   ·rename_i h1
    have h5:¬ e.kind=6:=fun h6=>by rw [hrk,h6] at h1;revert h1;decide
    simp only
    rw [if_neg (fun g=>h5 g.2.2.2),if_pos (by simp [h5])]
    simp only [List.append_nil]
    rw [jn_dq]
    simp [gq]
   ·rename_i h1
    have h6:e.kind=6:=by
     rcases hk with g|g
     ·exfalso;rw [hrk,g] at h1;revert h1;decide
     ·exact g
    simp only
    rcases rt_cases X.lives ⟨r.id,2,r.backend,0,r.answer⟩ X.now X.cf.drain with ⟨a,ha,er⟩|⟨i,hi,ei,h3,er⟩
    ·rw [er]
     simp only
     rw [if_neg (by simp [ha]),if_pos (by simp [ha])]
     simp [gq]
    ·rw [er]
     simp only
     have hlf:=(fH X.lives r.backend).2 i ei hi
     rw [if_pos (by simp [h6]),if_neg (by simp [h6])]
     skip
     obtain ⟨y,hy⟩:∃ y,y=jl (X.lives.getD i Lf.zero) ⟨r.id,2,r.backend,0,r.answer⟩ X.now X.cf.drain:=⟨_,rfl⟩
     rw [← hy]
     obtain ⟨A,B,e1,e2⟩:=dq_set hi y
     rw [if_neg h3] at e1
     have hst:gL X.lives e.backend=(X.lives.getD i Lf.zero).state:=by unfold gL;rw [← hrb,hlf];rfl
     split
     ·rename_i hs1
      rw [hst] at hs1
      have hy4:y.state≠3:=by rw [hy];unfold jl;simp only;rw [if_pos hs1];decide
      rw [if_neg hy4] at e2
      simp only
      rw [e1,e2]
      simp [gq]
     ·rename_i hs1
      rw [hst] at hs1
      have hy3:y.state=3:=by rw [hy];unfold jl;simp only;rw [if_neg hs1]
      have hyr:y.request=e.request:=by rw [hy,← hri];rfl
      rw [if_pos hy3,hyr] at e2
      have hg:=spared_gn { X with lives:=X.lives.set i y,reqs:=X.reqs++[⟨r.id,2,r.backend,0,0⟩],ring:=bO (dM (X.lives.set i y)) } e.backend
      unfold GnR at hg
      simp only at hg
      rw [gq_cons (by show (8:Int)≠9;decide)]
      refine List.Perm.trans ?_ hg
      rw [e1,e2]
      simp only [List.append_nil,List.append_assoc]
      exact List.Perm.append_left _ List.perm_append_comm
theorem do_gn {X:Wd} (h:WdMay X) {e:Ev} (he:EvMay X e):(dq X.lives++grOf X e).Perm (dq (mP X e).1.lives++gq (mP X e).2):=by
 have go:¬ (e.kind=5∨e.kind=6)→∀ Y O,GnR X Y O→(dq X.lives++grOf X e).Perm (dq Y.lives++gq O):=fun hk Y O r=>by
  unfold grOf
  rw [if_neg (fun g=>hk g.1),List.append_nil]
  exact r
 unfold mP
 split
 ·rename_i h1
  refine go (by omega) _ _ ?_
  unfold gj
  split
  ·exact gn_same rfl (by simp)
  ·split
   ·exact gn_same rfl (by simp)
   ·exact gn_same rfl (by simp)
 ·split
  ·rename_i h1;exact ask_gn e h1
  ·rename_i h1
   split
   ·rename_i h7
    refine go h1 _ _ (gn_stp.tick h (he.tk h7) ?_)
    unfold GnR
    rw [(k9 X).2.2]
    have:dq (X.lives.map (Lf.wk (X.now+1)))=dq X.lives:=by
     unfold dq
     rw [List.filter_map,List.map_map]
     have e1:X.lives.filter ((fun x:Lf=>x.state == 3)∘Lf.wk (X.now+1))=X.lives.filter fun x=>x.state == 3:=List.filter_congr fun x _=>by
      simp only [Function.comp]
      unfold Lf.wk
      by_cases h1:x.state=1
      ·rw [if_pos h1];simp [h1]
      ·rw [if_neg h1]
     rw [e1]
     refine List.map_congr_left fun x hx=>?_
     have h3:x.state=3:=by simpa using (List.mem_filter.1 hx).2
     simp only [Function.comp]
     unfold Lf.wk
     rw [if_neg (by omega)]
    rw [this]
    simp [gq]
   ·refine go h1 _ _ ?_
    unfold fj
    by_cases hc:tV X.tab e.slot e.gen≠0
    ·rw [if_pos hc];exact gn_same rfl (by simp)
    ·rw [if_neg hc]
     obtain ⟨_,hi,_,_⟩:=yt h.gw (Decidable.not_not.1 hc)
     split
     ·exact end_gn _ _ _ (Or.inr rfl)
     ·split
      ·refine gn_same ?_ (by simp)
       split<;>rfl
      ·split
       ·exact gn_same rfl (by simp)
       ·split
        ·exact gn_same rfl (by simp)
        ·exact gn_stp.fa _ _ _ h.gw hi
end Go.Proofs.YtfliffgmeobclaaGreat
