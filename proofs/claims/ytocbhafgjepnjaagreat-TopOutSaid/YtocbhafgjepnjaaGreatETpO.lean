/- Texts of the row's proof. Conditions: none. -/
import Derived.Test.YtocbhafgjepnjaaGreatETpN
namespace Go.Proofs.YtocbhafgjepnjaaGreat
set_option maxRecDepth 100000
set_option maxHeartbeats 8000000
open Go.RowKit
theorem cnt_range {L:List Lf} {R:List Rq} (h:bF L R) (q:Lf→Bool):L.countP q=((List.range 12).filter fun b=>match cW L (b:Nat) with|some x=>q x|none=>false).length:=by
 have hs:=bZ h
 have hp:((L.filter q).map fun x=>x.backend.toNat).Perm ((List.range 12).filter fun b=>match cW L (b:Nat) with|some x=>q x|none=>false):=by
  refine (List.perm_ext_iff_of_nodup ?_ ((List.nodup_range).sublist List.filter_sublist)).2 fun b=>?_
  ·rw [List.nodup_iff_pairwise_ne,List.pairwise_map]
   refine (hs.filter q).imp_of_mem fun {x y} hx hy hxy=>?_
   have h1:=dz h (List.mem_filter.1 hx).1;have h2:=dz h (List.mem_filter.1 hy).1
   have:=h1.1;have:=h2.1
   omega
  ·rw [II,List.mem_filter,List.mem_range]
   constructor
   ·rintro ⟨x,hx,rfl⟩
    obtain ⟨hx,hq⟩:=List.mem_filter.1 hx
    have h1:=dz h hx
    have h0:=h1.1;have h11:=h1.2.1
    refine ⟨by omega,?_⟩
    rw [Int.toNat_of_nonneg h0,gI hs hx]
    exact hq
   ·rintro ⟨hb,hq⟩
    cases hl:cW L (b:Nat) with
    | none=>rw [hl] at hq;simp at hq
    | some x=>
     rw [hl] at hq
     obtain ⟨hx,he⟩:=dj hl
     exact ⟨x,List.mem_filter.2 ⟨hx,hq⟩,by omega⟩
 rw [List.countP_eq_length_filter,← hp.length_eq,Iq]
def outN (X:Wd):List Nat:=(List.range 12).filter fun b=>gp X.lives (b:Nat) == 2 && (X.health.getD b Ht.zero).out
theorem actC_N {X:Wd} (h:GwMay X):wY X.lives=(actN X.lives).length:=by
 unfold wY actN
 rw [cnt_range h.bk]
 congr 2
 funext b
 unfold gp
 cases cW X.lives (b:Nat) with
 | none=>rfl
 | some x=>rfl
theorem outC_N {X:Wd} (h:GwMay X):xV X.lives X.health=(outN X).length:=by
 unfold xV outN
 rw [cnt_range h.bk]
 congr 1
 refine List.filter_congr fun b hb=>?_
 unfold gp iT
 cases hl:cW X.lives (b:Nat) with
 | none=>rfl
 | some x=>
  have he:=(dj hl).2
  simp only [Option.map_some,IJ,he,Iu]
theorem note_out {X:Wd} (h:GwMay X) {b:Nat} (hb:b<12) (failed:Bool):(outN (bO X b failed)).length≤(outN X).length∨((outN (bO X b failed)).length:Int)*100≤X.cf.most*((actN X.lives).length:Int):=by
 have hbl:b<X.health.length:=by rw [h.hl];exact hb
 have hle:∀ p q:Nat→Bool,(∀ c,c≠b→p c=q c)→((List.range 12).filter p).length≤((List.range 12).filter q).length+1:=by
  intro p q hpq
  have:((List.range 12).filter p).length≤(b :: (List.range 12).filter q).length:=by
   refine List.Nodup.length_le_of_subset ((List.nodup_range).sublist List.filter_sublist) fun c hc=>?_
   by_cases e:c=b
   ·rw [e];exact ID ..
   ·refine IF _ (List.mem_filter.2 ⟨(List.mem_filter.1 hc).1,?_⟩)
    rw [← hpq c e];exact (List.mem_filter.1 hc).2
  simpa using this
 have hg:∀ c,(bO X b failed).health.getD c Ht.zero=if b=c then iV X.cf (X.health.getD b Ht.zero) failed X.now (BU X && gp X.lives b == 2) else X.health.getD c Ht.zero:=fun c=>cJ hbl
 by_cases hc:(X.health.getD b Ht.zero).out=false∧(BU X && gp X.lives b == 2)=true∧X.cf.wf≤iW (gx (X.health.getD b Ht.zero).marks failed X.cf.ww)
 ·right
  have ha:BU X=true:=by have:=hc.2.1;simp at this;exact this.1
  unfold BU at ha
  have ha':((xV X.lives X.health:Int)+1)*100≤X.cf.most*(wY X.lives:Int):=by simpa using ha
  rw [outC_N h,actC_N h] at ha'
  have:=hle (fun c=>gp X.lives (c:Nat) == 2 && ((bO X b failed).health.getD c Ht.zero).out) (fun c=>gp X.lives (c:Nat) == 2 && (X.health.getD c Ht.zero).out) (fun c e=>by rw [hg c,if_neg (fun g=>e g.symm)])
  have h2:(outN (bO X b failed)).length≤(outN X).length+1:=this
  have h3:((outN (bO X b failed)).length:Int)≤((outN X).length:Int)+1:=by omega
  omega
 ·left
  have e:outN (bO X b failed)=outN X:=by
   unfold outN
   refine List.filter_congr fun c _=>?_
   show (gp X.lives (c:Nat) == 2 && _)=_
   rw [hg c]
   by_cases e:b=c
   ·subst e
    rw [if_pos rfl]
    unfold iV
    rw [if_neg hc]
   ·rw [if_neg e]
  rw [e];exact Ij _
theorem spared_h (X:Wd) (b:Int):(bP X b).1.health=X.health∧(bP X b).1.now=X.now:=by
 obtain ⟨L,e,_⟩:=iy X b
 rw [e];exact ⟨rfl,rfl⟩
theorem fin_st2 {L:List Lf} {R:List Rq} (h:bF L R) (b c:Int) (h3:∀ x,cW L b=some x→x.state=3):gp (ju L b) c=2↔gp L c=2:=by
 rcases b8 (cq b) L Lf.zero with ⟨e,_⟩|⟨i,hi,e,_⟩
 ·have:ju L b=L:=by
   unfold aN at e
   unfold ju
   cases hf:L.findIdx? (cq b) with
   | none=>rfl
   | some j=>rw [hf] at e;simp at e
  rw [this]
 ·rw [wj e]
  have hx:=(fD L b).2 i e hi
  have hs3:=h3 _ hx
  unfold gp
  rw [ij (y:=(L.getD i Lf.zero).done) (bZ h) hi rfl]
  by_cases hc:(L.getD i Lf.zero).done.backend=c
  ·rw [if_pos hc]
   have:cW L c=some (L.getD i Lf.zero):=by
    have hm:L.getD i Lf.zero∈L:=by rw [aK hi];exact Iw hi
    have hb:(L.getD i Lf.zero).backend=c:=hc
    rw [← hb];exact gI (bZ h) hm
   rw [this]
   simp only [Option.map_some,IJ,hs3,Lf.done]
   decide
  ·rw [if_neg hc]
theorem spared_st2 {X:Wd} (hb:bF X.lives X.reqs) (b c:Int):gp (bP X b).1.lives c=2↔gp X.lives c=2:=by
 unfold bP
 cases hl:cW X.lives b with
 | none=>exact Iff.rfl
 | some x=>
  simp only
  by_cases hc:x.state=3∧iO X.tab b X.tab.length=[]
  ·rw [if_pos hc]
   exact fin_st2 hb b c (fun y hy=>by rw [hl] at hy;injection hy with hy;rw [← hy];exact hc.1)
  ·rw [if_neg hc]
structure SameO (X Y:Wd):Prop where
 he:Y.health=X.health
 nw:Y.now=X.now
 st:∀ c,gp Y.lives c=2↔gp X.lives c=2
theorem SameO.out {X Y:Wd} (h:SameO X Y):outN Y=outN X∧actN Y.lives=actN X.lives:=by
 have e:∀ b:Nat,(gp Y.lives (b:Nat) == 2)=(gp X.lives (b:Nat) == 2):=fun b=>by
  by_cases g:gp X.lives (b:Nat)=2
  ·rw [g,(h.st b).2 g]
  ·have g':¬ gp Y.lives (b:Nat)=2:=fun k=>g ((h.st b).1 k)
   rw [beq_eq_false_iff_ne.2 g,beq_eq_false_iff_ne.2 g']
 constructor
 ·unfold outN;rw [h.he];exact List.filter_congr fun b _=>by rw [e]
 ·unfold actN;exact List.filter_congr fun b _=>by rw [e]
theorem SameO.trans {X Y Z:Wd} (h:SameO X Y) (k:SameO Y Z):SameO X Z:=⟨k.he.trans h.he,k.nw.trans h.nw,fun c=>(k.st c).trans (h.st c)⟩
theorem spared_same {X:Wd} (hb:bF X.lives X.reqs) (b:Int):SameO X (bP X b).1:=⟨(spared_h X b).1,(spared_h X b).2,spared_st2 hb b⟩
theorem end_same {X:Wd} (hb:bF X.lives X.reqs) (i:Nat) (k y:Int):SameO X (g9 X i k y).1:=by
 unfold g9
 have h:=spared_same (X:=iJ X i (dQ X.tab (X.flows.getD i Fl.zero))) hb (X.flows.getD i Fl.zero).backend
 exact ⟨h.he,h.nw,h.st⟩
theorem fail_same {X:Wd} (hb:bF X.lives X.reqs) (i:Nat) (why:Int):SameO (bO X (X.flows.getD i Fl.zero).backend.toNat true) (eu X i why).1:=by
 have hb':bF (bO X (X.flows.getD i Fl.zero).backend.toNat true).lives (bO X (X.flows.getD i Fl.zero).backend.toNat true).reqs:=hb
 unfold eu
 simp only
 split
 ·exact end_same hb' _ _ _
 ·split
  ·exact end_same hb' _ _ _
  ·split
   ·exact ⟨rfl,rfl,fun _=>Iff.rfl⟩
   ·have h:=spared_same (X:=fZ (bO X (X.flows.getD i Fl.zero).backend.toNat true) i (dp (bO X (X.flows.getD i Fl.zero).backend.toNat true) (X.flows.getD i Fl.zero).key.toNat (X.flows.getD i Fl.zero).slot).1) hb' (X.flows.getD i Fl.zero).backend
    exact ⟨h.he,h.nw,h.st⟩
theorem answer_out {X:Wd} (h:GwMay X) (e:Ev):(outN (ez X e).1).length≤(outN X).length∨((outN (ez X e).1).length:Int)*100≤X.cf.most*((actN (ez X e).1.lives).length:Int):=by
 have same:∀ Y,SameO X Y→(outN Y).length≤(outN X).length∨((outN Y).length:Int)*100≤X.cf.most*((actN Y.lives).length:Int):=fun Y hY=>Or.inl (by rw [hY.out.1];exact Ij _)
 have noted:∀ (X1 Y:Wd) (b:Nat) (f:Bool),GwMay X1→SameO X X1→X1.cf=X.cf→b<12→SameO (bO X1 b f) Y→(outN Y).length≤(outN X).length∨((outN Y).length:Int)*100≤X.cf.most*((actN Y.lives).length:Int):=by
  intro X1 Y b f g1 s1 hc hb s2
  have h1:=note_out g1 hb f
  rw [s2.out.1,s2.out.2,← s1.out.1,← hc]
  exact h1
 unfold ez
 by_cases hc:rE X.tab e.slot e.gen≠0
 ·rw [if_pos hc];exact Or.inl (Ij _)
 ·rw [if_neg hc]
  obtain ⟨_,hi,_,_⟩:=tY h (Decidable.not_not.1 hc)
  have hfm:=h.at_ hi
  obtain ⟨q,q1,q2,q3,q4,q5,q6,q7,q8,q9⟩:=h.num hfm
  split
  ·exact same _ (end_same h.bk _ _ _)
  ·split
   ·simp only
    split
    ·exact same _ ⟨rfl,rfl,fun _=>Iff.rfl⟩
    ·exact Or.inl (Ij _)
   ·split
    ·exact Or.inl (Ij _)
    ·split
     ·exact noted (gZ X (eV X e.slot)) _ _ false (pK h hi) ⟨rfl,rfl,fun _=>Iff.rfl⟩ rfl (by omega) ⟨rfl,rfl,fun _=>Iff.rfl⟩
     ·exact noted X _ _ true h ⟨rfl,rfl,fun _=>Iff.rfl⟩ rfl (by omega) (fail_same h.bk _ _)
end Go.Proofs.YtocbhafgjepnjaaGreat
