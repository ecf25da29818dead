/- Texts of the row's proof. Conditions: none. -/
import Derived.Test.YtocbhafgjepnjaaGreatK41
namespace Go.Proofs.YtocbhafgjepnjaaGreat
set_option maxRecDepth 100000
set_option maxHeartbeats 8000000
open Go.RowKit
def FlK (k:Int):Prop:=k=1∨k=3∨k=4∨k=5∨k=6∨k=7
structure Told (o:Out):Prop where
 s:¬ FlK o.kind→o.slot=0∧o.gen=0
 b:¬ FlK o.kind→o.kind≠9→o.backend=0
 r:o.kind≠8→o.kind≠9→o.request=0
 y:o.kind=6↔o.why≠0
 c:o.kind≠8→((o.kind=2∨o.kind=10)↔o.code≠0)
theorem told_fl {k s g b y:Int} (hk:FlK k) (hy:k=6↔y≠0):Told ⟨k,s,g,b,0,0,y⟩:=by
 refine ⟨fun h=>absurd hk h,fun h=>absurd hk h,fun _ _=>rfl,hy,fun _=>⟨fun h=>?_,fun h=>absurd rfl h⟩⟩
 unfold FlK at hk
 simp only at h
 omega
theorem told_no {k c:Int} (hk:k=2∨k=10) (hc:c≠0):Told ⟨k,0,0,0,0,c,0⟩:=by
 refine ⟨fun _=>⟨rfl,rfl⟩,fun _ _=>rfl,fun _ _=>rfl,⟨fun h=>?_,fun h=>absurd rfl h⟩,fun _=>⟨fun _=>hc,fun _=>hk⟩⟩
 simp only at h;omega
theorem told_re (q c:Int):Told ⟨8,0,0,0,q,c,0⟩:=by
 refine ⟨fun _=>⟨rfl,rfl⟩,fun _ _=>rfl,fun h=>absurd rfl h,⟨fun h=>?_,fun h=>absurd rfl h⟩,fun h=>absurd rfl h⟩
 simp only at h;omega
theorem told_go (b q:Int):Told ⟨9,0,0,b,q,0,0⟩:=by
 refine ⟨fun _=>⟨rfl,rfl⟩,fun _ h=>absurd rfl h,fun _ h=>absurd rfl h,⟨fun h=>?_,fun h=>absurd rfl h⟩,fun _=>⟨fun h=>?_,fun h=>absurd rfl h⟩⟩
 ·simp only at h;omega
 ·simp only at h;omega
theorem told_spared {X:Wd} {b:Int} {o:Out} (h:o∈(bP X b).2):Told o:=by
 unfold bP at h
 cases hl:cW X.lives b with
 | none=>rw [hl] at h;simp at h
 | some x=>
  rw [hl] at h
  simp only at h
  by_cases hc:x.state=3∧iO X.tab b X.tab.length=[]
  ·rw [if_pos hc] at h;simp at h;rw [h];exact told_go _ _
  ·rw [if_neg hc] at h;simp at h
theorem told_end {X:Wd} {i:Nat} {k y:Int} (hk:k=6∧y≠0∨k=7∧y=0) {o:Out} (h:o∈(g9 X i k y).2):Told o:=by
 unfold g9 at h
 rcases List.mem_cons.1 h with rfl|h
 ·exact told_fl (by unfold FlK;omega) (by omega)
 ·exact told_spared h
theorem told_fail {X:Wd} {i:Nat} {why:Int} (hw:why≠0) {o:Out} (h:o∈(eu X i why).2):Told o:=by
 unfold eu at h
 simp only at h
 split at h
 ·exact told_end (Or.inl ⟨rfl,hw⟩) h
 ·split at h
  ·exact told_end (Or.inl ⟨rfl,by decide⟩) h
  ·split at h
   ·simp at h;rw [h];exact told_fl (by unfold FlK;omega) (by decide)
   ·rcases List.mem_cons.1 h with rfl|h
    ·exact told_fl (by unfold FlK;omega) (by decide)
    ·exact told_spared h
theorem told_due {P:Wd×List Out} {s:Int} {o:Out} (h:o∈(ja P s).2):o∈P.2∨Told o:=by
 unfold ja at h
 split at h
 ·rcases List.mem_append.1 h with h|h
  ·exact Or.inl h
  ·exact Or.inr (told_end (Or.inl ⟨rfl,by decide⟩) h)
 ·rcases List.mem_append.1 h with h|h
  ·exact Or.inl h
  ·exact Or.inr (told_fail (by decide) h)
theorem told_cut {P:Wd×List Out} {s:Int} {o:Out} (h:o∈(lX P s).2):o∈P.2∨Told o:=by
 unfold lX at h
 rcases List.mem_append.1 h with h|h
 ·exact Or.inl h
 ·exact Or.inr (told_end (Or.inl ⟨rfl,by decide⟩) h)
theorem told_drain {P:Wd×List Out} {x:Lf} {o:Out} (h:o∈(eO P x).2):o∈P.2∨Told o:=by
 unfold eO at h
 split at h
 ·exact Or.inl h
 ·exact mE (p:=Told) (fun P a o h=>told_cut h) _ _ _ h
theorem told_tick {X:Wd} {o:Out} (h:o∈(gX X).2):Told o:=by
 unfold gX at h
 rcases mE (p:=Told) (fun P a o h=>told_drain h) _ _ _ h with h|h
 ·unfold ca at h
  rcases mE (p:=Told) (fun P a o h=>told_due h) _ _ _ h with h|h
  ·simp at h
  ·exact h
 ·exact h
theorem told_do {X:Wd} {e:Ev} {o:Out} (h:o∈(ib X e).2):Told o:=by
 unfold ib at h
 split at h
 ·unfold ep at h
  split at h
  ·simp at h;rw [h];exact told_no (Or.inl rfl) (by decide)
  ·split at h
   ·simp at h;rw [h];exact told_no (Or.inl rfl) (by decide)
   ·simp at h;rw [h];exact told_fl (Or.inl rfl) (by decide)
 ·split at h
  ·unfold oL jb at h
   simp only at h
   split at h
   ·simp at h;rw [h];exact told_re _ _
   ·split at h
    ·simp at h
     rcases h with h|h<;>rw [h]
     ·exact told_re _ _
     ·exact told_go _ _
    ·rcases List.mem_cons.1 h with rfl|h
     ·exact told_re _ _
     ·exact told_spared h
  ·split at h
   ·exact told_tick h
   ·unfold ez at h
    split at h
    ·rename_i hc;simp at h;rw [h];exact told_no (Or.inr rfl) hc
    ·split at h
     ·exact told_end (Or.inr ⟨rfl,rfl⟩) h
     ·split at h
      ·simp at h;rw [h];exact told_fl (by unfold FlK;omega) (by decide)
      ·split at h
       ·simp at h;rw [h];exact told_no (Or.inr rfl) (by decide)
       ·split at h
        ·simp at h;rw [h];exact told_fl (by unfold FlK;omega) (by decide)
        ·exact told_fail (by decide) h
end Go.Proofs.YtocbhafgjepnjaaGreat
